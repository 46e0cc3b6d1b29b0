/- What the laws' texts lean on, part 3: lemmas and the contracts of functions. No condition. -/
import Derived.Test.YtefkifdhjabdiaaDoorN1
import Derived.Deep.RegionHeld3
import Derived.Laws.Tables
import Derived.Test.YtefkifdhjabdiaaDoorN0
import Derived.OwnWalk
import Derived.WalkSpells
import Derived.Deep.RegionLaw
import Derived.Laws.OwnMore
namespace Go.Proofs.YtefkifdhjabdiaaDoor
set_option linter.unusedVariables false
set_option linter.unusedSimpArgs false
open Go.RowKit

/-- Is a float itself? -/
def selfB (n : Int) : Bool := FloatKind.f64.format.order (IntKind.u64.wrap n).toNat (IntKind.u64.wrap n).toNat == some Ordering.eq

set_option maxRecDepth 100000 in
set_option maxHeartbeats 4000000 in
theorem right_f1 (n : Int) (w : World) (hs : selfB n = true) : Calls Tryd.prog 85 #[.agg #[.int .i64 3, .int .i64 n]] w fun e w' => e = .returned (.bool true) ∧ Below w.heap.size w w' := by
 unfold selfB at hs
 obtain ⟨W0, hW0⟩ : ∃ W0, W0 = w.alloc (.cells #[.int .i64 3, .int .i64 n] 44) := ⟨_, rfl⟩
 have HS : Hid (∀ w', Below (w.heap.size + 1) W0 w' → w'.cell? ⟨w.heap.size, 0, none⟩ = some (.int .i64 3) ∧ w'.cell? ⟨w.heap.size, 1, none⟩ = some (.int .i64 n) ∧ w.heap.size < w'.heap.size ∧ Below (w.heap.size + 1) W0 w') := Lib.hid (fun w' h' => by
  have e : ∀ i, w'.cell? ⟨w.heap.size, i, none⟩ = W0.cell? ⟨w.heap.size, i, none⟩ := fun i => h'.cell (p := ⟨w.heap.size, i, none⟩) (by simp)
  refine ⟨?_, ?_, by have := h'.size; rw [hW0] at this; simp at this; omega, h'⟩ <;> (rw [e, hW0]; simp))
 have HB : Hid (Below w.heap.size w W0) := Lib.hid (by rw [hW0]; exact (Below.refl _ _).alloc (Nat.le_refl _) _)
 go_enter Tryd.func85, Tryd.ntmps85
 go_wp2_with fail
 rw [← hW0]
 clear hW0
 refine wp_region_held_drew (S := fun w' => w'.cell? ⟨w.heap.size, 0, none⟩ = some (.int .i64 3) ∧ w'.cell? ⟨w.heap.size, 1, none⟩ = some (.int .i64 n) ∧ w.heap.size < w'.heap.size ∧ Below (w.heap.size + 1) W0 w') (by kernel_rfl) (HS.out _ (Below.refl _ _).drew) (fun hHeld => ?_)
 try dsimp only
 refine wpAnyH_take (i := 0) (oi := ?oiz4) (v := ?vvz4) ?hiz4 (by kernel_rfl) (by kernel_rfl) (by kernel_rfl) ?hQz4 (Or.inl ⟨?hwz4, ?hyz4⟩) (by assumption) ?hhz4
 case hiz4 => simp only [List.getElem?_toArray, List.getElem?_cons_succ, List.getElem?_cons_zero]; rfl
 case hwz4 => rfl
 case hyz4 => (intro w hSw; (try dsimp only at hSw); go_simp; (try with_reducible rfl))
 case hQz4 => exact fun _ _ _ h => h
 try simp only [Act.put, List.setIfInBounds_toArray, List.set_cons_zero, List.set_cons_succ]
 refine wpAnyH_take (i := 2) (oi := ?oiz5) (v := ?vvz5) ?hiz5 (by kernel_rfl) (by kernel_rfl) (by kernel_rfl) ?hQz5 (Or.inl ⟨?hwz5, ?hyz5⟩) (by assumption) ?hhz5
 case hiz5 => simp only [List.getElem?_toArray, List.getElem?_cons_succ, List.getElem?_cons_zero]; rfl
 case hwz5 => rfl
 case hyz5 => (intro w hSw; (try dsimp only at hSw); go_simp; (try with_reducible rfl))
 case hQz5 => exact fun _ _ _ h => h
 try simp only [Act.put, List.setIfInBounds_toArray, List.set_cons_zero, List.set_cons_succ]
 refine wpAnyH_ready (rs := [1]) (by kernel_rfl) (by simp) ?_
 refine AllReadyH.cons (o := ?oiz6) ?hiz6 (fun K hK => ?hhz6) AllReadyH.nil
 case hiz6 => simp only [List.getElem?_toArray, List.getElem?_cons_succ, List.getElem?_cons_zero]; rfl
 go_simp
 go_at_call 73
 refine (float_any _ _ _).mono ?_
 rintro e w' ⟨rfl, hbb⟩
 go_wp2_with fail
 refine hK.out _ _ ?_ (fun hHeld2 => ?_)
 ·(go_split_ands; exact HS.out _ ((by assumption : Below (w.heap.size + 1) W0 _).trans (hbb.mono (by omega))))
 clear hK K hHeld
 have hHeld := hHeld2
 clear hHeld2
 try simp only [Act.put, List.setIfInBounds_toArray, List.set_cons_zero, List.set_cons_succ]
 refine wpAnyH_ready (rs := [3]) (by kernel_rfl) (by simp) ?_
 refine AllReadyH.cons (o := ?oiz7) ?hiz7 (fun K hK => ?hhz7) AllReadyH.nil
 case hiz7 => simp only [List.getElem?_toArray, List.getElem?_cons_succ, List.getElem?_cons_zero]; rfl
 go_simp
 go_at_call 73
 refine (float_any _ _ _).mono ?_
 rintro e w' ⟨rfl, hbb⟩
 go_wp2_with fail
 refine hK.out _ _ ?_ (fun hHeld2 => ?_)
 ·(go_split_ands; exact HS.out _ ((by assumption : Below (w.heap.size + 1) W0 _).trans (hbb.mono (by omega))))
 clear hK K hHeld
 have hHeld := hHeld2
 clear hHeld2
 try simp only [Act.put, List.setIfInBounds_toArray, List.set_cons_zero, List.set_cons_succ]
 refine wpAnyH_take (i := 4) (oi := ?oiz8) (v := ?vvz8) ?hiz8 (by kernel_rfl) (by kernel_rfl) (by kernel_rfl) ?hQz8 (Or.inl ⟨?hwz8, ?hyz8⟩) (by assumption) ?hhz8
 case hiz8 => simp only [List.getElem?_toArray, List.getElem?_cons_succ, List.getElem?_cons_zero]; rfl
 case hwz8 => rfl
 case hyz8 => (intro w hSw; (try dsimp only at hSw); go_simp; (try with_reducible rfl))
 case hQz8 => exact fun _ _ _ h => h
 try simp only [Act.put, List.setIfInBounds_toArray, List.set_cons_zero, List.set_cons_succ]
 refine wpAnyH_take (i := 5) (oi := ?oiz9) (v := ?vvz9) ?hiz9 (by kernel_rfl) (by kernel_rfl) (by kernel_rfl) ?hQz9 (Or.inl ⟨?hwz9, ?hyz9⟩) (by assumption) ?hhz9
 case hiz9 => simp only [List.getElem?_toArray, List.getElem?_cons_succ, List.getElem?_cons_zero]; rfl
 case hwz9 => rfl
 case hyz9 => (intro w hSw; (try dsimp only at hSw); go_simp; (try with_reducible rfl))
 case hQz9 => exact fun _ _ _ h => h
 try simp only [Act.put, List.setIfInBounds_toArray, List.set_cons_zero, List.set_cons_succ]
 refine wpAnyH_take (i := 6) (oi := ?oiz1) (v := undef) ?hiz1 (by kernel_rfl) (by kernel_rfl) (by kernel_rfl) ?hQz1 (Or.inr ⟨?hwz1, rfl⟩) (by assumption) ?hhz1
 case hiz1 => simp only [List.getElem?_toArray, List.getElem?_cons_succ, List.getElem?_cons_zero]; rfl
 case hwz1 => rfl
 case hQz1 => exact fun _ _ _ h => h
 try simp only [Act.put, List.setIfInBounds_toArray, List.set_cons_zero, List.set_cons_succ]
 refine wpAnyH_take (i := 7) (oi := ?oiz2) (v := undef) ?hiz2 (by kernel_rfl) (by kernel_rfl) (by kernel_rfl) ?hQz2 (Or.inr ⟨?hwz2, rfl⟩) (by assumption) ?hhz2
 case hiz2 => simp only [List.getElem?_toArray, List.getElem?_cons_succ, List.getElem?_cons_zero]; rfl
 case hwz2 => rfl
 case hQz2 => exact fun _ _ _ h => h
 try simp only [Act.put, List.setIfInBounds_toArray, List.set_cons_zero, List.set_cons_succ]
 refine wpAnyH_take (i := 8) (oi := ?oiz3) (v := undef) ?hiz3 (by kernel_rfl) (by kernel_rfl) (by kernel_rfl) ?hQz3 (Or.inr ⟨?hwz3, rfl⟩) (by assumption) ?hhz3
 case hiz3 => simp only [List.getElem?_toArray, List.getElem?_cons_succ, List.getElem?_cons_zero]; rfl
 case hwz3 => rfl
 case hQz3 => exact fun _ _ _ h => h
 try simp only [Act.put, List.setIfInBounds_toArray, List.set_cons_zero, List.set_cons_succ]
 refine wpAnyH_take (i := 9) (oi := ?oiz10) (v := ?vvz10) ?hiz10 (by kernel_rfl) (by kernel_rfl) (by kernel_rfl) ?hQz10 (Or.inl ⟨?hwz10, ?hyz10⟩) (by assumption) ?hhz10
 case hiz10 => simp only [List.getElem?_toArray, List.getElem?_cons_succ, List.getElem?_cons_zero]; rfl
 case hwz10 => rfl
 case hyz10 => (intro w hSw; (try dsimp only at hSw); go_simp; (try with_reducible rfl))
 case hQz10 => exact fun _ _ _ h => h
 try simp only [Act.put, List.setIfInBounds_toArray, List.set_cons_zero, List.set_cons_succ]
 refine wpAnyH_take (i := 10) (oi := ?oiz11) (v := ?vvz11) ?hiz11 (by kernel_rfl) (by kernel_rfl) (by kernel_rfl) ?hQz11 (Or.inl ⟨?hwz11, ?hyz11⟩) (by assumption) ?hhz11
 case hiz11 => simp only [List.getElem?_toArray, List.getElem?_cons_succ, List.getElem?_cons_zero]; rfl
 case hwz11 => rfl
 case hyz11 => (intro w hSw; (try dsimp only at hSw); go_simp; (try with_reducible rfl))
 case hQz11 => exact fun _ _ _ h => h
 try simp only [Act.put, List.setIfInBounds_toArray, List.set_cons_zero, List.set_cons_succ]
 refine wpAnyH_done (by kernel_rfl) ?_ _
 go_split_ands
 go_wp2_with fail
 go_ret
 exact ⟨rfl, HB.out.trans (Below.mono (by assumption) (by omega))⟩

set_option maxRecDepth 100000 in
set_option maxHeartbeats 4000000 in
theorem right_f2 (n : Int) (w : World) (hs : selfB n = false) (hn : (n == 9221120237041090561) = true) : Calls Tryd.prog 85 #[.agg #[.int .i64 3, .int .i64 n]] w fun e w' => e = .returned (.bool true) ∧ Below w.heap.size w w' := by
 unfold selfB at hs
 obtain ⟨W0, hW0⟩ : ∃ W0, W0 = w.alloc (.cells #[.int .i64 3, .int .i64 n] 44) := ⟨_, rfl⟩
 have HS : Hid (∀ w', Below (w.heap.size + 1) W0 w' → w'.cell? ⟨w.heap.size, 0, none⟩ = some (.int .i64 3) ∧ w'.cell? ⟨w.heap.size, 1, none⟩ = some (.int .i64 n) ∧ w.heap.size < w'.heap.size ∧ Below (w.heap.size + 1) W0 w') := Lib.hid (fun w' h' => by
  have e : ∀ i, w'.cell? ⟨w.heap.size, i, none⟩ = W0.cell? ⟨w.heap.size, i, none⟩ := fun i => h'.cell (p := ⟨w.heap.size, i, none⟩) (by simp)
  refine ⟨?_, ?_, by have := h'.size; rw [hW0] at this; simp at this; omega, h'⟩ <;> (rw [e, hW0]; simp))
 have HB : Hid (Below w.heap.size w W0) := Lib.hid (by rw [hW0]; exact (Below.refl _ _).alloc (Nat.le_refl _) _)
 go_enter Tryd.func85, Tryd.ntmps85
 go_wp2_with fail
 rw [← hW0]
 clear hW0
 refine wp_region_held_drew (S := fun w' => w'.cell? ⟨w.heap.size, 0, none⟩ = some (.int .i64 3) ∧ w'.cell? ⟨w.heap.size, 1, none⟩ = some (.int .i64 n) ∧ w.heap.size < w'.heap.size ∧ Below (w.heap.size + 1) W0 w') (by kernel_rfl) (HS.out _ (Below.refl _ _).drew) (fun hHeld => ?_)
 try dsimp only
 refine wpAnyH_take (i := 0) (oi := ?oiz15) (v := ?vvz15) ?hiz15 (by kernel_rfl) (by kernel_rfl) (by kernel_rfl) ?hQz15 (Or.inl ⟨?hwz15, ?hyz15⟩) (by assumption) ?hhz15
 case hiz15 => simp only [List.getElem?_toArray, List.getElem?_cons_succ, List.getElem?_cons_zero]; rfl
 case hwz15 => rfl
 case hyz15 => (intro w hSw; (try dsimp only at hSw); go_simp; (try with_reducible rfl))
 case hQz15 => exact fun _ _ _ h => h
 try simp only [Act.put, List.setIfInBounds_toArray, List.set_cons_zero, List.set_cons_succ]
 refine wpAnyH_take (i := 2) (oi := ?oiz16) (v := ?vvz16) ?hiz16 (by kernel_rfl) (by kernel_rfl) (by kernel_rfl) ?hQz16 (Or.inl ⟨?hwz16, ?hyz16⟩) (by assumption) ?hhz16
 case hiz16 => simp only [List.getElem?_toArray, List.getElem?_cons_succ, List.getElem?_cons_zero]; rfl
 case hwz16 => rfl
 case hyz16 => (intro w hSw; (try dsimp only at hSw); go_simp; (try with_reducible rfl))
 case hQz16 => exact fun _ _ _ h => h
 try simp only [Act.put, List.setIfInBounds_toArray, List.set_cons_zero, List.set_cons_succ]
 refine wpAnyH_ready (rs := [1]) (by kernel_rfl) (by simp) ?_
 refine AllReadyH.cons (o := ?oiz17) ?hiz17 (fun K hK => ?hhz17) AllReadyH.nil
 case hiz17 => simp only [List.getElem?_toArray, List.getElem?_cons_succ, List.getElem?_cons_zero]; rfl
 go_simp
 go_at_call 73
 refine (float_any _ _ _).mono ?_
 rintro e w' ⟨rfl, hbb⟩
 go_wp2_with fail
 refine hK.out _ _ ?_ (fun hHeld2 => ?_)
 ·(go_split_ands; exact HS.out _ ((by assumption : Below (w.heap.size + 1) W0 _).trans (hbb.mono (by omega))))
 clear hK K hHeld
 have hHeld := hHeld2
 clear hHeld2
 try simp only [Act.put, List.setIfInBounds_toArray, List.set_cons_zero, List.set_cons_succ]
 refine wpAnyH_ready (rs := [3]) (by kernel_rfl) (by simp) ?_
 refine AllReadyH.cons (o := ?oiz18) ?hiz18 (fun K hK => ?hhz18) AllReadyH.nil
 case hiz18 => simp only [List.getElem?_toArray, List.getElem?_cons_succ, List.getElem?_cons_zero]; rfl
 go_simp
 go_at_call 73
 refine (float_any _ _ _).mono ?_
 rintro e w' ⟨rfl, hbb⟩
 go_wp2_with fail
 refine hK.out _ _ ?_ (fun hHeld2 => ?_)
 ·(go_split_ands; exact HS.out _ ((by assumption : Below (w.heap.size + 1) W0 _).trans (hbb.mono (by omega))))
 clear hK K hHeld
 have hHeld := hHeld2
 clear hHeld2
 try simp only [Act.put, List.setIfInBounds_toArray, List.set_cons_zero, List.set_cons_succ]
 refine wpAnyH_take (i := 4) (oi := ?oiz19) (v := ?vvz19) ?hiz19 (by kernel_rfl) (by kernel_rfl) (by kernel_rfl) ?hQz19 (Or.inl ⟨?hwz19, ?hyz19⟩) (by assumption) ?hhz19
 case hiz19 => simp only [List.getElem?_toArray, List.getElem?_cons_succ, List.getElem?_cons_zero]; rfl
 case hwz19 => rfl
 case hyz19 => (intro w hSw; (try dsimp only at hSw); go_simp; (try with_reducible rfl))
 case hQz19 => exact fun _ _ _ h => h
 try simp only [Act.put, List.setIfInBounds_toArray, List.set_cons_zero, List.set_cons_succ]
 refine wpAnyH_take (i := 5) (oi := ?oiz20) (v := ?vvz20) ?hiz20 (by kernel_rfl) (by kernel_rfl) (by kernel_rfl) ?hQz20 (Or.inl ⟨?hwz20, ?hyz20⟩) (by assumption) ?hhz20
 case hiz20 => simp only [List.getElem?_toArray, List.getElem?_cons_succ, List.getElem?_cons_zero]; rfl
 case hwz20 => rfl
 case hyz20 => (intro w hSw; (try dsimp only at hSw); go_simp; (try with_reducible rfl))
 case hQz20 => exact fun _ _ _ h => h
 try simp only [Act.put, List.setIfInBounds_toArray, List.set_cons_zero, List.set_cons_succ]
 refine wpAnyH_take (i := 6) (oi := ?oiz12) (v := ?vvz12) ?hiz12 (by kernel_rfl) (by kernel_rfl) (by kernel_rfl) ?hQz12 (Or.inl ⟨?hwz12, ?hyz12⟩) (by assumption) ?hhz12
 case hiz12 => simp only [List.getElem?_toArray, List.getElem?_cons_succ, List.getElem?_cons_zero]; rfl
 case hwz12 => rfl
 case hyz12 => (intro w hSw; (try dsimp only at hSw); go_simp; (try with_reducible rfl))
 case hQz12 => exact fun _ _ _ h => h
 try simp only [Act.put, List.setIfInBounds_toArray, List.set_cons_zero, List.set_cons_succ]
 refine wpAnyH_take (i := 7) (oi := ?oiz13) (v := ?vvz13) ?hiz13 (by kernel_rfl) (by kernel_rfl) (by kernel_rfl) ?hQz13 (Or.inl ⟨?hwz13, ?hyz13⟩) (by assumption) ?hhz13
 case hiz13 => simp only [List.getElem?_toArray, List.getElem?_cons_succ, List.getElem?_cons_zero]; rfl
 case hwz13 => rfl
 case hyz13 => (intro w hSw; (try dsimp only at hSw); go_simp; (try with_reducible rfl))
 case hQz13 => exact fun _ _ _ h => h
 try simp only [Act.put, List.setIfInBounds_toArray, List.set_cons_zero, List.set_cons_succ]
 refine wpAnyH_take (i := 8) (oi := ?oiz14) (v := ?vvz14) ?hiz14 (by kernel_rfl) (by kernel_rfl) (by kernel_rfl) ?hQz14 (Or.inl ⟨?hwz14, ?hyz14⟩) (by assumption) ?hhz14
 case hiz14 => simp only [List.getElem?_toArray, List.getElem?_cons_succ, List.getElem?_cons_zero]; rfl
 case hwz14 => rfl
 case hyz14 => (intro w hSw; (try dsimp only at hSw); go_simp; (try with_reducible rfl))
 case hQz14 => exact fun _ _ _ h => h
 try simp only [Act.put, List.setIfInBounds_toArray, List.set_cons_zero, List.set_cons_succ]
 refine wpAnyH_take (i := 9) (oi := ?oiz21) (v := ?vvz21) ?hiz21 (by kernel_rfl) (by kernel_rfl) (by kernel_rfl) ?hQz21 (Or.inl ⟨?hwz21, ?hyz21⟩) (by assumption) ?hhz21
 case hiz21 => simp only [List.getElem?_toArray, List.getElem?_cons_succ, List.getElem?_cons_zero]; rfl
 case hwz21 => rfl
 case hyz21 => (intro w hSw; (try dsimp only at hSw); go_simp; (try with_reducible rfl))
 case hQz21 => exact fun _ _ _ h => h
 try simp only [Act.put, List.setIfInBounds_toArray, List.set_cons_zero, List.set_cons_succ]
 refine wpAnyH_take (i := 10) (oi := ?oiz22) (v := ?vvz22) ?hiz22 (by kernel_rfl) (by kernel_rfl) (by kernel_rfl) ?hQz22 (Or.inl ⟨?hwz22, ?hyz22⟩) (by assumption) ?hhz22
 case hiz22 => simp only [List.getElem?_toArray, List.getElem?_cons_succ, List.getElem?_cons_zero]; rfl
 case hwz22 => rfl
 case hyz22 => (intro w hSw; (try dsimp only at hSw); go_simp; (try with_reducible rfl))
 case hQz22 => exact fun _ _ _ h => h
 try simp only [Act.put, List.setIfInBounds_toArray, List.set_cons_zero, List.set_cons_succ]
 refine wpAnyH_done (by kernel_rfl) ?_ _
 go_split_ands
 go_wp2_with fail
 go_ret
 exact ⟨rfl, HB.out.trans (Below.mono (by assumption) (by omega))⟩

set_option maxRecDepth 100000 in
set_option maxHeartbeats 4000000 in
theorem right_f3 (n : Int) (w : World) (hs : selfB n = false) (hn : (n == 9221120237041090561) = false) : Calls Tryd.prog 85 #[.agg #[.int .i64 3, .int .i64 n]] w fun e w' => e = .returned (.bool false) ∧ Below w.heap.size w w' := by
 unfold selfB at hs
 obtain ⟨W0, hW0⟩ : ∃ W0, W0 = w.alloc (.cells #[.int .i64 3, .int .i64 n] 44) := ⟨_, rfl⟩
 have HS : Hid (∀ w', Below (w.heap.size + 1) W0 w' → w'.cell? ⟨w.heap.size, 0, none⟩ = some (.int .i64 3) ∧ w'.cell? ⟨w.heap.size, 1, none⟩ = some (.int .i64 n) ∧ w.heap.size < w'.heap.size ∧ Below (w.heap.size + 1) W0 w') := Lib.hid (fun w' h' => by
  have e : ∀ i, w'.cell? ⟨w.heap.size, i, none⟩ = W0.cell? ⟨w.heap.size, i, none⟩ := fun i => h'.cell (p := ⟨w.heap.size, i, none⟩) (by simp)
  refine ⟨?_, ?_, by have := h'.size; rw [hW0] at this; simp at this; omega, h'⟩ <;> (rw [e, hW0]; simp))
 have HB : Hid (Below w.heap.size w W0) := Lib.hid (by rw [hW0]; exact (Below.refl _ _).alloc (Nat.le_refl _) _)
 go_enter Tryd.func85, Tryd.ntmps85
 go_wp2_with fail
 rw [← hW0]
 clear hW0
 refine wp_region_held_drew (S := fun w' => w'.cell? ⟨w.heap.size, 0, none⟩ = some (.int .i64 3) ∧ w'.cell? ⟨w.heap.size, 1, none⟩ = some (.int .i64 n) ∧ w.heap.size < w'.heap.size ∧ Below (w.heap.size + 1) W0 w') (by kernel_rfl) (HS.out _ (Below.refl _ _).drew) (fun hHeld => ?_)
 try dsimp only
 refine wpAnyH_take (i := 0) (oi := ?oiz26) (v := ?vvz26) ?hiz26 (by kernel_rfl) (by kernel_rfl) (by kernel_rfl) ?hQz26 (Or.inl ⟨?hwz26, ?hyz26⟩) (by assumption) ?hhz26
 case hiz26 => simp only [List.getElem?_toArray, List.getElem?_cons_succ, List.getElem?_cons_zero]; rfl
 case hwz26 => rfl
 case hyz26 => (intro w hSw; (try dsimp only at hSw); go_simp; (try with_reducible rfl))
 case hQz26 => exact fun _ _ _ h => h
 try simp only [Act.put, List.setIfInBounds_toArray, List.set_cons_zero, List.set_cons_succ]
 refine wpAnyH_take (i := 2) (oi := ?oiz27) (v := ?vvz27) ?hiz27 (by kernel_rfl) (by kernel_rfl) (by kernel_rfl) ?hQz27 (Or.inl ⟨?hwz27, ?hyz27⟩) (by assumption) ?hhz27
 case hiz27 => simp only [List.getElem?_toArray, List.getElem?_cons_succ, List.getElem?_cons_zero]; rfl
 case hwz27 => rfl
 case hyz27 => (intro w hSw; (try dsimp only at hSw); go_simp; (try with_reducible rfl))
 case hQz27 => exact fun _ _ _ h => h
 try simp only [Act.put, List.setIfInBounds_toArray, List.set_cons_zero, List.set_cons_succ]
 refine wpAnyH_ready (rs := [1]) (by kernel_rfl) (by simp) ?_
 refine AllReadyH.cons (o := ?oiz28) ?hiz28 (fun K hK => ?hhz28) AllReadyH.nil
 case hiz28 => simp only [List.getElem?_toArray, List.getElem?_cons_succ, List.getElem?_cons_zero]; rfl
 go_simp
 go_at_call 73
 refine (float_any _ _ _).mono ?_
 rintro e w' ⟨rfl, hbb⟩
 go_wp2_with fail
 refine hK.out _ _ ?_ (fun hHeld2 => ?_)
 ·(go_split_ands; exact HS.out _ ((by assumption : Below (w.heap.size + 1) W0 _).trans (hbb.mono (by omega))))
 clear hK K hHeld
 have hHeld := hHeld2
 clear hHeld2
 try simp only [Act.put, List.setIfInBounds_toArray, List.set_cons_zero, List.set_cons_succ]
 refine wpAnyH_ready (rs := [3]) (by kernel_rfl) (by simp) ?_
 refine AllReadyH.cons (o := ?oiz29) ?hiz29 (fun K hK => ?hhz29) AllReadyH.nil
 case hiz29 => simp only [List.getElem?_toArray, List.getElem?_cons_succ, List.getElem?_cons_zero]; rfl
 go_simp
 go_at_call 73
 refine (float_any _ _ _).mono ?_
 rintro e w' ⟨rfl, hbb⟩
 go_wp2_with fail
 refine hK.out _ _ ?_ (fun hHeld2 => ?_)
 ·(go_split_ands; exact HS.out _ ((by assumption : Below (w.heap.size + 1) W0 _).trans (hbb.mono (by omega))))
 clear hK K hHeld
 have hHeld := hHeld2
 clear hHeld2
 try simp only [Act.put, List.setIfInBounds_toArray, List.set_cons_zero, List.set_cons_succ]
 refine wpAnyH_take (i := 4) (oi := ?oiz30) (v := ?vvz30) ?hiz30 (by kernel_rfl) (by kernel_rfl) (by kernel_rfl) ?hQz30 (Or.inl ⟨?hwz30, ?hyz30⟩) (by assumption) ?hhz30
 case hiz30 => simp only [List.getElem?_toArray, List.getElem?_cons_succ, List.getElem?_cons_zero]; rfl
 case hwz30 => rfl
 case hyz30 => (intro w hSw; (try dsimp only at hSw); go_simp; (try with_reducible rfl))
 case hQz30 => exact fun _ _ _ h => h
 try simp only [Act.put, List.setIfInBounds_toArray, List.set_cons_zero, List.set_cons_succ]
 refine wpAnyH_take (i := 5) (oi := ?oiz31) (v := ?vvz31) ?hiz31 (by kernel_rfl) (by kernel_rfl) (by kernel_rfl) ?hQz31 (Or.inl ⟨?hwz31, ?hyz31⟩) (by assumption) ?hhz31
 case hiz31 => simp only [List.getElem?_toArray, List.getElem?_cons_succ, List.getElem?_cons_zero]; rfl
 case hwz31 => rfl
 case hyz31 => (intro w hSw; (try dsimp only at hSw); go_simp; (try with_reducible rfl))
 case hQz31 => exact fun _ _ _ h => h
 try simp only [Act.put, List.setIfInBounds_toArray, List.set_cons_zero, List.set_cons_succ]
 refine wpAnyH_take (i := 6) (oi := ?oiz23) (v := ?vvz23) ?hiz23 (by kernel_rfl) (by kernel_rfl) (by kernel_rfl) ?hQz23 (Or.inl ⟨?hwz23, ?hyz23⟩) (by assumption) ?hhz23
 case hiz23 => simp only [List.getElem?_toArray, List.getElem?_cons_succ, List.getElem?_cons_zero]; rfl
 case hwz23 => rfl
 case hyz23 => (intro w hSw; (try dsimp only at hSw); go_simp; (try with_reducible rfl))
 case hQz23 => exact fun _ _ _ h => h
 try simp only [Act.put, List.setIfInBounds_toArray, List.set_cons_zero, List.set_cons_succ]
 refine wpAnyH_take (i := 7) (oi := ?oiz24) (v := ?vvz24) ?hiz24 (by kernel_rfl) (by kernel_rfl) (by kernel_rfl) ?hQz24 (Or.inl ⟨?hwz24, ?hyz24⟩) (by assumption) ?hhz24
 case hiz24 => simp only [List.getElem?_toArray, List.getElem?_cons_succ, List.getElem?_cons_zero]; rfl
 case hwz24 => rfl
 case hyz24 => (intro w hSw; (try dsimp only at hSw); go_simp; (try with_reducible rfl))
 case hQz24 => exact fun _ _ _ h => h
 try simp only [Act.put, List.setIfInBounds_toArray, List.set_cons_zero, List.set_cons_succ]
 refine wpAnyH_take (i := 8) (oi := ?oiz25) (v := ?vvz25) ?hiz25 (by kernel_rfl) (by kernel_rfl) (by kernel_rfl) ?hQz25 (Or.inl ⟨?hwz25, ?hyz25⟩) (by assumption) ?hhz25
 case hiz25 => simp only [List.getElem?_toArray, List.getElem?_cons_succ, List.getElem?_cons_zero]; rfl
 case hwz25 => rfl
 case hyz25 => (intro w hSw; (try dsimp only at hSw); go_simp; (try with_reducible rfl))
 case hQz25 => exact fun _ _ _ h => h
 try simp only [Act.put, List.setIfInBounds_toArray, List.set_cons_zero, List.set_cons_succ]
 refine wpAnyH_take (i := 9) (oi := ?oiz32) (v := ?vvz32) ?hiz32 (by kernel_rfl) (by kernel_rfl) (by kernel_rfl) ?hQz32 (Or.inl ⟨?hwz32, ?hyz32⟩) (by assumption) ?hhz32
 case hiz32 => simp only [List.getElem?_toArray, List.getElem?_cons_succ, List.getElem?_cons_zero]; rfl
 case hwz32 => rfl
 case hyz32 => (intro w hSw; (try dsimp only at hSw); go_simp; (try with_reducible rfl))
 case hQz32 => exact fun _ _ _ h => h
 try simp only [Act.put, List.setIfInBounds_toArray, List.set_cons_zero, List.set_cons_succ]
 refine wpAnyH_take (i := 10) (oi := ?oiz33) (v := ?vvz33) ?hiz33 (by kernel_rfl) (by kernel_rfl) (by kernel_rfl) ?hQz33 (Or.inl ⟨?hwz33, ?hyz33⟩) (by assumption) ?hhz33
 case hiz33 => simp only [List.getElem?_toArray, List.getElem?_cons_succ, List.getElem?_cons_zero]; rfl
 case hwz33 => rfl
 case hyz33 => (intro w hSw; (try dsimp only at hSw); go_simp; (try with_reducible rfl))
 case hQz33 => exact fun _ _ _ h => h
 try simp only [Act.put, List.setIfInBounds_toArray, List.set_cons_zero, List.set_cons_succ]
 refine wpAnyH_done (by kernel_rfl) ?_ _
 go_split_ands
 go_wp2_with fail
 go_ret
 exact ⟨rfl, HB.out.trans (Below.mono (by assumption) (by omega))⟩
end Go.Proofs.YtefkifdhjabdiaaDoor
namespace Go.Proofs.YtefkifdhjabdiaaDoor
set_option linter.unusedVariables false
set_option linter.unusedSimpArgs false
open Go.RowKit

def rightF (v : Val) : Bool :=
 if v.kind = 3 then selfB v.n || decide (v.n = 9221120237041090561)
 else if v.kind = 0 then decide (v.n = 0) else if v.kind = 1 then withinF v.n 0 1 else if v.kind = 2 then withinF v.n (-2147483648) 2147483647 else if v.kind = 4 ∨ v.kind = 5 then decide (0 ≤ v.n) else if v.kind = 6 then withinF v.n 0 15 else false
theorem right_any (v : Val) (w : World) : Calls Tryd.prog 85 #[.agg v.cells] w fun e w' => e = .returned (.bool (rightF v)) ∧ Below w.heap.size w w' := by
 obtain ⟨k, n⟩ := v
 unfold rightF Val.cells
 simp only
 by_cases hk : k = 3
 ·subst hk
  rw [if_pos rfl]
  cases hs : selfB n with
  | true => exact right_f1 n w hs
  | false =>
   by_cases hn : n = 9221120237041090561
   ·rw [show (false || decide (n = 9221120237041090561)) = true by simp [hn]]
    exact right_f2 n w hs (by simpa using hn)
   ·rw [show (false || decide (n = 9221120237041090561)) = false by simp [hn]]
    exact right_f3 n w hs (by simpa using hn)
 ·rw [if_neg hk]
  exact right_plain k n hk w
end Go.Proofs.YtefkifdhjabdiaaDoor
namespace Go.Proofs.YtefkifdhjabdiaaDoor
set_option linter.unusedVariables false
set_option linter.unusedSimpArgs false
open Go.RowKit
def rightVF (v : EVal) : Bool := rightF ⟨v.1, v.2⟩
theorem cons_one {σ : Sg} {w : World} {c : CV} {cs : List CV} {vs : List Value} (h : CCs σ w (c :: cs) vs) : ∃ v r, vs = v :: r ∧ CC σ w c v ∧ CCs σ w cs r := h.cons_of
theorem nil_one {σ : Sg} {w : World} {vs : List Value} (h : CCs σ w [] vs) : vs = [] := List.eq_nil_of_length_eq_zero h.1.symm
theorem vals_one {σ : Sg} {w : World} {a : AV} {l : List AV} {vs : List Value} (h : All2 (CA σ w) (a :: l) vs) : ∃ v r, vs = v :: r ∧ CA σ w a v ∧ All2 (CA σ w) l r := h.cons_of
theorem vals_nil {σ : Sg} {w : World} {vs : List Value} (h : All2 (CA σ w) [] vs) : vs = [] := List.eq_nil_of_length_eq_zero h.1.symm
theorem rightV_fun (v : EVal) : AFun Tryd.prog 85 [.agg (tVal.enc v)] (.c (.bool (rightVF v))) := fun R w vs hR hG hv => by
 left
 refine ⟨enters_of Tryd.func85 (by decide) rfl _ _, ?_⟩
 obtain ⟨x, r, rfl, ⟨cs, hx, hcs⟩, hr⟩ := vals_one hv
 obtain rfl := vals_nil hr
 obtain ⟨v1, r1, e1, ⟨h1, _⟩, q1⟩ := cons_one (c := .int .i64 v.1) (cs := [.int .i64 v.2]) hcs
 obtain ⟨v2, r2, e2, ⟨h2, _⟩, q2⟩ := cons_one q1
 obtain rfl := nil_one q2
 subst hx
 have hc : cs = (⟨v.1, v.2⟩ : Val).cells := by
  apply Array.toList_inj.1
  rw [e1, e2, h1, h2]; rfl
 subst hc
 exact (right_any ⟨v.1, v.2⟩ w).mono fun e w' ⟨he, hb⟩ => ⟨_, he, hb, rfl⟩
end Go.Proofs.YtefkifdhjabdiaaDoor
namespace Go.Proofs.YtefkifdhjabdiaaDoor
set_option linter.unusedVariables false
set_option linter.unusedSimpArgs false
set_option maxRecDepth 100000
noncomputable def oc7 : Orc where
 pure := fun f args => match f, args with
  | 46, [a0, a1, a2] => match dA tChk a0, dA tExit a1, dA tI a2 with
   | some x0, some x1, some x2 => some (.c (.bool (rightXF x0 x1 x2)))
   | _, _, _ => none
  | 84, [a0, a1, a2] => match dA tChk a0, dA (.slice tI) a1, dA tI a2 with
   | some x0, some x1, some x2 => some (.c (.bool (valuesF x0 x1 x2)))
   | _, _, _ => none
  | 85, [a0] => match dA tVal a0 with
   | some x0 => some (.c (.bool (rightVF x0)))
   | _ => none
  | _, _ => none
 heap := fun _ _ _ => none
def shF (x : EIns) (k : Int) : Bool := if k = 1 then (if x.1 = 19 then true else if x.1 = 9 then decide (x.2.2.2.2.1 = 1) else false) else false
def okV (sh : Bool) (v : Int) : Bool := if sh = true then decide (0 ≤ v) else decide (v = -1)
def restF (x : EIns) (k : Int) : Bool := (decide (0 < k) || okV (shF x 0) x.2.1) && ((decide (1 < k) || okV (shF x 1) x.2.2.1) && (decide (2 < k) || okV (shF x 2) x.2.2.2.1))
theorem restF_ge {x : EIns} {k : Int} (h : 3 ≤ k) : restF x k = true := by
 have h0 : 0 < k := by omega
 have h1 : 1 < k := by omega
 have h2 : 2 < k := by omega
 simp [restF, h0, h1, h2]
theorem restF_step {x : EIns} {k : Int} (h : 0 ≤ k) (h' : k < 3) : restF x k = (okV (shF x k) ([x.2.1, x.2.2.1, x.2.2.2.1].getD k.toNat 0) && restF x (k + 1)) := by
 rcases (show k = 0 ∨ k = 1 ∨ k = 2 by omega) with rfl | rfl | rfl
 ·simp [restF]
 ·simp [restF]
 ·simp [restF]
def kOk (f : EForm) (x : EIns) : Bool := if f.2.2.2.1 = true then rightVF x.2.2.2.2.2.2 else (decide (x.2.2.2.2.2.2.1 = 0) && (decide (x.2.2.2.2.2.2.2 = 0) && true))
def exitOk (c : EChk) (f : EForm) (x : EIns) (at_ : Int) : Bool :=
 if f.2.2.2.2.2 = 0 then decide (x.2.2.2.2.2.1 = -1) else if f.2.2.2.2.2 = 1 then (if x.2.2.2.2.2.1 = -1 then true else if 0 ≤ x.2.2.2.2.2.1 then (if x.2.2.2.2.2.1 < (c.2.2.2.2.2.1.length : Int) then rightXF c (c.2.2.2.2.2.1.getD (Int.toNat x.2.2.2.2.2.1) tExit.dflt) at_ else false) else false)
 else if 0 ≤ x.2.2.2.2.2.1 then (if x.2.2.2.2.2.1 < (c.2.2.2.2.2.1.length : Int) then rightXF c (c.2.2.2.2.2.1.getD (Int.toNat x.2.2.2.2.2.1) tExit.dflt) at_ else false) else false
def refOk (x : EIns) : Bool := if x.1 = 2 then (if x.2.2.2.2.2.2.1 = 5 then false else true) else true
def tail2F (c : EChk) (f : EForm) (x : EIns) (at_ : Int) : Bool := if kOk f x = true then (if refOk x = true then exitOk c f x at_ else false) else false
def regOk (c : EChk) (x : EIns) : Bool := if x.1 = 1 then (if c.1.2.1 ≤ x.2.2.2.2.1 then false else true) else true
def tailF (c : EChk) (f : EForm) (x : EIns) (at_ : Int) : Bool :=
 if x.2.2.2.2.1 < f.2.1 then false else if f.2.2.1 < x.2.2.2.2.1 then false else if regOk c x = true then tail2F c f x at_ else false
def formedF (c : EChk) (f : EForm) (x : EIns) (at_ : Int) : Bool := valuesF c ([x.2.1, x.2.2.1, x.2.2.2.1].take f.1.toNat) at_ && (restF x f.1 && tailF c f x at_)
def formed_lv : LV := ⟨(F2 (false :: true :: true :: true :: true :: F2 (true :: true :: true :: F32 (F32 (F32 (F32 (F16 (F8 ([]))))))))), [8, 10, 12, 14]⟩
noncomputable def formed_T (c : EChk) (f : EForm) (x : EIns) (at_ : Int) : Tree :=
 .need (([0, 0, 0]).length = 3) <|
 .need ((0 : Int) ≤ f.1 ∧ (f.1 : Int) ≤ ((3 : Nat) : Int) ∧ 3 ≤ ([x.2.1, x.2.2.1, x.2.2.2.1]).length) <|
 .need ((Int.toNat f.1) ≤ ([x.2.1, x.2.2.1, x.2.2.2.1]).length) <|
 .call 84 [.agg (Ty.enc tChk c), .c (.ro tI (([x.2.1, x.2.2.1, x.2.2.2.1]).take (Int.toNat f.1))), .c (.int .i64 at_)] true (.c (.bool (valuesF c (([x.2.1, x.2.2.1, x.2.2.2.1]).take (Int.toNat f.1)) at_))) <|
 .ite ((!(valuesF c (([x.2.1, x.2.2.1, x.2.2.2.1]).take (Int.toNat f.1)) at_)))
 (.ret (.c (.lit false)) [.cells 86 (Ty.enc tChk c), .cells 88 (Ty.enc tForm f), .cells 46 (Ty.enc tIns x), .vec 93 tI ([x.2.1, x.2.2.1, x.2.2.2.1])])
 (.stop (lp (bodyOf Tryd.f44) 0) (J2 (.junk :: .c (.int .i64 at_) :: .c (.ptr 0 0 0 0) :: .c (.ptr 1 0 0 0) :: .c (.ptr 2 0 0 0) :: J2 (.c (.ptr 3 0 0 0) :: .c (.int .i64 f.1) :: J32 (J32 (J32 (J32 (J16 (J8 (.junk :: []))))))))) [.cells 86 (Ty.enc tChk c), .cells 88 (Ty.enc tForm f), .cells 46 (Ty.enc tIns x), .vec 93 tI ([x.2.1, x.2.2.1, x.2.2.2.1])])
theorem formed_T_ok (c : EChk) (f : EForm) (x : EIns) (at_ : Int) : aRun Tryd.prog oc7 Tryd.f44 formed_lv 3000 [.code (bodyOf Tryd.f44)] ([.agg (tChk.enc c), .agg (tForm.enc f), .agg (tIns.enc x), .c (.int .i64 at_)] ++ List.replicate (Func.ntmps Tryd.f44 - 4) .junk) [] = formed_T c f x at_ := by kernel_rfl
noncomputable def formed_r14_R (c : EChk) (f : EForm) (x : EIns) (at_ : Int) : Tree :=
 .ite (decide (f.2.2.2.2.2 = 0))
 (.ret (.c (.bool (decide (x.2.2.2.2.2.1 = (-1))))) [.cells 86 (Ty.enc tChk c), .cells 88 (Ty.enc tForm f), .cells 46 (Ty.enc tIns x)])
 (.ite (decide (f.2.2.2.2.2 = 1))
  (.ite (decide (x.2.2.2.2.2.1 = (-1)))
  (.ret (.c (.bool (decide (x.2.2.2.2.2.1 = (-1))))) [.cells 86 (Ty.enc tChk c), .cells 88 (Ty.enc tForm f), .cells 46 (Ty.enc tIns x)])
  (.ite (decide ((0 : Int) ≤ x.2.2.2.2.2.1))
   (.ite (decide (x.2.2.2.2.2.1 < (c.2.2.2.2.2.1.length : Int)))
   (.need ((0 : Int) ≤ x.2.2.2.2.2.1 ∧ (x.2.2.2.2.2.1 : Int) < (c.2.2.2.2.2.1.length : Int)) <|
    .need ((Int.toNat x.2.2.2.2.2.1) < c.2.2.2.2.2.1.length) <|
    .call 46 [.agg (Ty.enc tChk c), .agg [.int .i64 (c.2.2.2.2.2.1.getD (Int.toNat x.2.2.2.2.2.1) tExit.dflt).1, .int .i64 (c.2.2.2.2.2.1.getD (Int.toNat x.2.2.2.2.2.1) tExit.dflt).2.1, .ro tVal (c.2.2.2.2.2.1.getD (Int.toNat x.2.2.2.2.2.1) tExit.dflt).2.2.1, .ro tMake (c.2.2.2.2.2.1.getD (Int.toNat x.2.2.2.2.2.1) tExit.dflt).2.2.2], .c (.int .i64 at_)] false (.c (.bool (rightXF c (c.2.2.2.2.2.1.getD (Int.toNat x.2.2.2.2.2.1) tExit.dflt) at_))) <|
    .ret (.c (.bool (rightXF c (c.2.2.2.2.2.1.getD (Int.toNat x.2.2.2.2.2.1) tExit.dflt) at_))) [.cells 86 (Ty.enc tChk c), .cells 88 (Ty.enc tForm f), .cells 46 (Ty.enc tIns x)])
   (.ret (.c (.lit false)) [.cells 86 (Ty.enc tChk c), .cells 88 (Ty.enc tForm f), .cells 46 (Ty.enc tIns x)]))
   (.ret (.c (.lit false)) [.cells 86 (Ty.enc tChk c), .cells 88 (Ty.enc tForm f), .cells 46 (Ty.enc tIns x)])))
  (.ite (decide ((0 : Int) ≤ x.2.2.2.2.2.1))
  (.ite (decide (x.2.2.2.2.2.1 < (c.2.2.2.2.2.1.length : Int)))
   (.need ((0 : Int) ≤ x.2.2.2.2.2.1 ∧ (x.2.2.2.2.2.1 : Int) < (c.2.2.2.2.2.1.length : Int)) <|
   .need ((Int.toNat x.2.2.2.2.2.1) < c.2.2.2.2.2.1.length) <|
   .call 46 [.agg (Ty.enc tChk c), .agg [.int .i64 (c.2.2.2.2.2.1.getD (Int.toNat x.2.2.2.2.2.1) tExit.dflt).1, .int .i64 (c.2.2.2.2.2.1.getD (Int.toNat x.2.2.2.2.2.1) tExit.dflt).2.1, .ro tVal (c.2.2.2.2.2.1.getD (Int.toNat x.2.2.2.2.2.1) tExit.dflt).2.2.1, .ro tMake (c.2.2.2.2.2.1.getD (Int.toNat x.2.2.2.2.2.1) tExit.dflt).2.2.2], .c (.int .i64 at_)] false (.c (.bool (rightXF c (c.2.2.2.2.2.1.getD (Int.toNat x.2.2.2.2.2.1) tExit.dflt) at_))) <|
   .ret (.c (.bool (rightXF c (c.2.2.2.2.2.1.getD (Int.toNat x.2.2.2.2.2.1) tExit.dflt) at_))) [.cells 86 (Ty.enc tChk c), .cells 88 (Ty.enc tForm f), .cells 46 (Ty.enc tIns x)])
   (.ret (.c (.lit false)) [.cells 86 (Ty.enc tChk c), .cells 88 (Ty.enc tForm f), .cells 46 (Ty.enc tIns x)]))
  (.ret (.c (.lit false)) [.cells 86 (Ty.enc tChk c), .cells 88 (Ty.enc tForm f), .cells 46 (Ty.enc tIns x)])))
abbrev bCd2 (at_ : Int) : List AV := (J2 (.junk :: .c (.int .i64 at_) :: .c (.ptr 0 0 0 0) :: .c (.ptr 1 0 0 0) :: .c (.ptr 2 0 0 0) :: J32 (J32 (J32 (J32 (J16 (J8 (J4 (.junk :: [])))))))))
theorem formed_r14_R_ok (c : EChk) (f : EForm) (x : EIns) (at_ : Int) : aRound Tryd.prog oc7 Tryd.f44 formed_lv 3000 (rg (bodyOf Tryd.f44) 14) (bCd2 at_) [.cells 86 (Ty.enc tChk c), .cells 88 (Ty.enc tForm f), .cells 46 (Ty.enc tIns x)] = formed_r14_R c f x at_ := by kernel_rfl
noncomputable def formed_r12_R (c : EChk) (f : EForm) (x : EIns) (at_ : Int) : Tree :=
 .ite ((!f.2.2.2.1))
 (.ite ((!(decide (x.2.2.2.2.2.2.1 = 0) && (decide (x.2.2.2.2.2.2.2 = 0) && true))))
  (.ret (.c (.lit false)) [.cells 86 (Ty.enc tChk c), .cells 88 (Ty.enc tForm f), .cells 46 (Ty.enc tIns x)])
  (.ite (f.2.2.2.1)
  (.call 85 [.agg [.int .i64 x.2.2.2.2.2.2.1, .int .i64 x.2.2.2.2.2.2.2]] false (.c (.bool (rightVF x.2.2.2.2.2.2))) <|
   .ite ((!(rightVF x.2.2.2.2.2.2)))
   (.ret (.c (.lit false)) [.cells 86 (Ty.enc tChk c), .cells 88 (Ty.enc tForm f), .cells 46 (Ty.enc tIns x)])
   (.ite (decide (x.1 = 2))
   (.ite (decide (x.2.2.2.2.2.2.1 = 5))
    (.ret (.c (.lit false)) [.cells 86 (Ty.enc tChk c), .cells 88 (Ty.enc tForm f), .cells 46 (Ty.enc tIns x)])
    (.stop (rg (bodyOf Tryd.f44) 14) (bCd2 at_) [.cells 86 (Ty.enc tChk c), .cells 88 (Ty.enc tForm f), .cells 46 (Ty.enc tIns x)]))
   (.stop (rg (bodyOf Tryd.f44) 14) (bCd2 at_) [.cells 86 (Ty.enc tChk c), .cells 88 (Ty.enc tForm f), .cells 46 (Ty.enc tIns x)])))
  (.ite (decide (x.1 = 2))
   (.ite (decide (x.2.2.2.2.2.2.1 = 5))
   (.ret (.c (.lit false)) [.cells 86 (Ty.enc tChk c), .cells 88 (Ty.enc tForm f), .cells 46 (Ty.enc tIns x)])
   (.stop (rg (bodyOf Tryd.f44) 14) (bCd2 at_) [.cells 86 (Ty.enc tChk c), .cells 88 (Ty.enc tForm f), .cells 46 (Ty.enc tIns x)]))
   (.stop (rg (bodyOf Tryd.f44) 14) (bCd2 at_) [.cells 86 (Ty.enc tChk c), .cells 88 (Ty.enc tForm f), .cells 46 (Ty.enc tIns x)]))))
 (.ite (f.2.2.2.1)
  (.call 85 [.agg [.int .i64 x.2.2.2.2.2.2.1, .int .i64 x.2.2.2.2.2.2.2]] false (.c (.bool (rightVF x.2.2.2.2.2.2))) <|
  .ite ((!(rightVF x.2.2.2.2.2.2)))
  (.ret (.c (.lit false)) [.cells 86 (Ty.enc tChk c), .cells 88 (Ty.enc tForm f), .cells 46 (Ty.enc tIns x)])
  (.ite (decide (x.1 = 2))
   (.ite (decide (x.2.2.2.2.2.2.1 = 5))
   (.ret (.c (.lit false)) [.cells 86 (Ty.enc tChk c), .cells 88 (Ty.enc tForm f), .cells 46 (Ty.enc tIns x)])
   (.stop (rg (bodyOf Tryd.f44) 14) (bCd2 at_) [.cells 86 (Ty.enc tChk c), .cells 88 (Ty.enc tForm f), .cells 46 (Ty.enc tIns x)]))
   (.stop (rg (bodyOf Tryd.f44) 14) (bCd2 at_) [.cells 86 (Ty.enc tChk c), .cells 88 (Ty.enc tForm f), .cells 46 (Ty.enc tIns x)])))
  (.ite (decide (x.1 = 2))
  (.ite (decide (x.2.2.2.2.2.2.1 = 5))
   (.ret (.c (.lit false)) [.cells 86 (Ty.enc tChk c), .cells 88 (Ty.enc tForm f), .cells 46 (Ty.enc tIns x)])
   (.stop (rg (bodyOf Tryd.f44) 14) (bCd2 at_) [.cells 86 (Ty.enc tChk c), .cells 88 (Ty.enc tForm f), .cells 46 (Ty.enc tIns x)]))
  (.stop (rg (bodyOf Tryd.f44) 14) (bCd2 at_) [.cells 86 (Ty.enc tChk c), .cells 88 (Ty.enc tForm f), .cells 46 (Ty.enc tIns x)])))
theorem formed_r12_R_ok (c : EChk) (f : EForm) (x : EIns) (at_ : Int) : aRound Tryd.prog oc7 Tryd.f44 formed_lv 3000 (rg (bodyOf Tryd.f44) 12) (bCd2 at_) [.cells 86 (Ty.enc tChk c), .cells 88 (Ty.enc tForm f), .cells 46 (Ty.enc tIns x)] = formed_r12_R c f x at_ := by kernel_rfl
noncomputable def formed_r10_R (c : EChk) (f : EForm) (x : EIns) (at_ : Int) : Tree :=
 .ite (decide (x.2.2.2.2.1 < f.2.1))
 (.ret (.c (.lit false)) [.cells 86 (Ty.enc tChk c), .cells 88 (Ty.enc tForm f), .cells 46 (Ty.enc tIns x)])
 (.ite (decide (f.2.2.1 < x.2.2.2.2.1))
  (.ret (.c (.lit false)) [.cells 86 (Ty.enc tChk c), .cells 88 (Ty.enc tForm f), .cells 46 (Ty.enc tIns x)])
  (.ite (decide (x.1 = 1))
  (.ite (decide (c.1.2.1 ≤ x.2.2.2.2.1))
   (.ret (.c (.lit false)) [.cells 86 (Ty.enc tChk c), .cells 88 (Ty.enc tForm f), .cells 46 (Ty.enc tIns x)])
   (.stop (rg (bodyOf Tryd.f44) 12) (bCd2 at_) [.cells 86 (Ty.enc tChk c), .cells 88 (Ty.enc tForm f), .cells 46 (Ty.enc tIns x)]))
  (.stop (rg (bodyOf Tryd.f44) 12) (bCd2 at_) [.cells 86 (Ty.enc tChk c), .cells 88 (Ty.enc tForm f), .cells 46 (Ty.enc tIns x)])))
theorem formed_r10_R_ok (c : EChk) (f : EForm) (x : EIns) (at_ : Int) : aRound Tryd.prog oc7 Tryd.f44 formed_lv 3000 (rg (bodyOf Tryd.f44) 10) (bCd2 at_) [.cells 86 (Ty.enc tChk c), .cells 88 (Ty.enc tForm f), .cells 46 (Ty.enc tIns x)] = formed_r10_R c f x at_ := by kernel_rfl
abbrev bCd0 (at_ : Int) (k : Int) (sh : Bool) : List AV := (J2 (.junk :: .c (.int .i64 at_) :: .c (.ptr 0 0 0 0) :: .c (.ptr 1 0 0 0) :: .c (.ptr 2 0 0 0) :: J2 (.c (.ptr 3 0 0 0) :: .c (.int .i64 (k + 1)) :: .c (.bool sh) :: J32 (J32 (J32 (J32 (J16 (J8 ([])))))))))
noncomputable def formed_r8_R (c : EChk) (f : EForm) (x : EIns) (at_ : Int) (k : Int) (sh : Bool) : Tree :=
 .ite (sh)
 (.need ((0 : Int) ≤ k ∧ (k : Int) < ((3 : Nat) : Int)) <|
  .need ((Int.toNat k) < ([x.2.1, x.2.2.1, x.2.2.2.1]).length) <|
  .ite (decide ((([x.2.1, x.2.2.1, x.2.2.2.1]).getD (Int.toNat k) tI.dflt) < 0))
  (.ret (.c (.lit false)) [.cells 86 (Ty.enc tChk c), .cells 88 (Ty.enc tForm f), .cells 46 (Ty.enc tIns x), .vec 93 tI ([x.2.1, x.2.2.1, x.2.2.2.1])])
  (.ite ((!sh))
  (.need ((0 : Int) ≤ k ∧ (k : Int) < ((3 : Nat) : Int)) <|
   .need ((Int.toNat k) < ([x.2.1, x.2.2.1, x.2.2.2.1]).length) <|
   .ite ((!(decide ((([x.2.1, x.2.2.1, x.2.2.2.1]).getD (Int.toNat k) tI.dflt) = (-1)))))
   (.ret (.c (.lit false)) [.cells 86 (Ty.enc tChk c), .cells 88 (Ty.enc tForm f), .cells 46 (Ty.enc tIns x), .vec 93 tI ([x.2.1, x.2.2.1, x.2.2.2.1])])
   (.need (inR .i64 (k + 1)) <|
   .stop (lp (bodyOf Tryd.f44) 0) (bCd0 at_ k sh) [.cells 86 (Ty.enc tChk c), .cells 88 (Ty.enc tForm f), .cells 46 (Ty.enc tIns x), .vec 93 tI ([x.2.1, x.2.2.1, x.2.2.2.1])]))
  (.need (inR .i64 (k + 1)) <|
   .stop (lp (bodyOf Tryd.f44) 0) (bCd0 at_ k sh) [.cells 86 (Ty.enc tChk c), .cells 88 (Ty.enc tForm f), .cells 46 (Ty.enc tIns x), .vec 93 tI ([x.2.1, x.2.2.1, x.2.2.2.1])])))
 (.ite ((!sh))
  (.need ((0 : Int) ≤ k ∧ (k : Int) < ((3 : Nat) : Int)) <|
  .need ((Int.toNat k) < ([x.2.1, x.2.2.1, x.2.2.2.1]).length) <|
  .ite ((!(decide ((([x.2.1, x.2.2.1, x.2.2.2.1]).getD (Int.toNat k) tI.dflt) = (-1)))))
  (.ret (.c (.lit false)) [.cells 86 (Ty.enc tChk c), .cells 88 (Ty.enc tForm f), .cells 46 (Ty.enc tIns x), .vec 93 tI ([x.2.1, x.2.2.1, x.2.2.2.1])])
  (.need (inR .i64 (k + 1)) <|
   .stop (lp (bodyOf Tryd.f44) 0) (bCd0 at_ k sh) [.cells 86 (Ty.enc tChk c), .cells 88 (Ty.enc tForm f), .cells 46 (Ty.enc tIns x), .vec 93 tI ([x.2.1, x.2.2.1, x.2.2.2.1])]))
  (.need (inR .i64 (k + 1)) <|
  .stop (lp (bodyOf Tryd.f44) 0) (bCd0 at_ k sh) [.cells 86 (Ty.enc tChk c), .cells 88 (Ty.enc tForm f), .cells 46 (Ty.enc tIns x), .vec 93 tI ([x.2.1, x.2.2.1, x.2.2.2.1])]))
theorem formed_r8_R_ok (c : EChk) (f : EForm) (x : EIns) (at_ : Int) (k : Int) (sh : Bool) : aRound Tryd.prog oc7 Tryd.f44 formed_lv 3000 (rg (bodyOf Tryd.f44) 8) (J2 (.junk :: .c (.int .i64 at_) :: .c (.ptr 0 0 0 0) :: .c (.ptr 1 0 0 0) :: .c (.ptr 2 0 0 0) :: J2 (.c (.ptr 3 0 0 0) :: .c (.int .i64 k) :: .c (.bool sh) :: J32 (J32 (J32 (J32 (J16 (J8 ([]))))))))) [.cells 86 (Ty.enc tChk c), .cells 88 (Ty.enc tForm f), .cells 46 (Ty.enc tIns x), .vec 93 tI ([x.2.1, x.2.2.1, x.2.2.2.1])] = formed_r8_R c f x at_ k sh := by kernel_rfl
abbrev bCd1 (at_ : Int) (k : Int) : List AV := (J2 (.junk :: .c (.int .i64 at_) :: .c (.ptr 0 0 0 0) :: .c (.ptr 1 0 0 0) :: .c (.ptr 2 0 0 0) :: J2 (.c (.ptr 3 0 0 0) :: .c (.int .i64 k) :: J32 (J32 (J32 (J32 (J16 (J8 (.junk :: [])))))))))
noncomputable def formed_l0_R (c : EChk) (f : EForm) (x : EIns) (at_ : Int) (k : Int) : Tree :=
 .ite (decide (k < 3))
 (.ite (decide (k = 1))
  (.ite (decide (x.1 = 19))
  (.stop (rg (bodyOf Tryd.f44) 8) (J2 (.junk :: .c (.int .i64 at_) :: .c (.ptr 0 0 0 0) :: .c (.ptr 1 0 0 0) :: .c (.ptr 2 0 0 0) :: J2 (.c (.ptr 3 0 0 0) :: .c (.int .i64 k) :: .c (.lit true) :: J32 (J32 (J32 (J32 (J16 (J8 ([]))))))))) [.cells 86 (Ty.enc tChk c), .cells 88 (Ty.enc tForm f), .cells 46 (Ty.enc tIns x), .vec 93 tI ([x.2.1, x.2.2.1, x.2.2.2.1])])
  (.ite (decide (x.1 = 9))
   (.stop (rg (bodyOf Tryd.f44) 8) (J2 (.junk :: .c (.int .i64 at_) :: .c (.ptr 0 0 0 0) :: .c (.ptr 1 0 0 0) :: .c (.ptr 2 0 0 0) :: J2 (.c (.ptr 3 0 0 0) :: .c (.int .i64 k) :: .c (.bool (decide (x.2.2.2.2.1 = 1))) :: J32 (J32 (J32 (J32 (J16 (J8 ([]))))))))) [.cells 86 (Ty.enc tChk c), .cells 88 (Ty.enc tForm f), .cells 46 (Ty.enc tIns x), .vec 93 tI ([x.2.1, x.2.2.1, x.2.2.2.1])])
   (.stop (rg (bodyOf Tryd.f44) 8) (J2 (.junk :: .c (.int .i64 at_) :: .c (.ptr 0 0 0 0) :: .c (.ptr 1 0 0 0) :: .c (.ptr 2 0 0 0) :: J2 (.c (.ptr 3 0 0 0) :: .c (.int .i64 k) :: .c (.lit false) :: J32 (J32 (J32 (J32 (J16 (J8 ([]))))))))) [.cells 86 (Ty.enc tChk c), .cells 88 (Ty.enc tForm f), .cells 46 (Ty.enc tIns x), .vec 93 tI ([x.2.1, x.2.2.1, x.2.2.2.1])])))
  (.stop (rg (bodyOf Tryd.f44) 8) (J2 (.junk :: .c (.int .i64 at_) :: .c (.ptr 0 0 0 0) :: .c (.ptr 1 0 0 0) :: .c (.ptr 2 0 0 0) :: J2 (.c (.ptr 3 0 0 0) :: .c (.int .i64 k) :: .c (.lit false) :: J32 (J32 (J32 (J32 (J16 (J8 ([]))))))))) [.cells 86 (Ty.enc tChk c), .cells 88 (Ty.enc tForm f), .cells 46 (Ty.enc tIns x), .vec 93 tI ([x.2.1, x.2.2.1, x.2.2.2.1])]))
 (.stop (rg (bodyOf Tryd.f44) 10) (bCd1 at_ k) [.cells 86 (Ty.enc tChk c), .cells 88 (Ty.enc tForm f), .cells 46 (Ty.enc tIns x), .vec 93 tI ([x.2.1, x.2.2.1, x.2.2.2.1])])
theorem formed_l0_R_ok (c : EChk) (f : EForm) (x : EIns) (at_ : Int) (k : Int) : aRound Tryd.prog oc7 Tryd.f44 formed_lv 3000 (lp (bodyOf Tryd.f44) 0) (bCd1 at_ k) [.cells 86 (Ty.enc tChk c), .cells 88 (Ty.enc tForm f), .cells 46 (Ty.enc tIns x), .vec 93 tI ([x.2.1, x.2.2.1, x.2.2.2.1])] = formed_l0_R c f x at_ k := by kernel_rfl
theorem formed_r14 (c : EChk) (f : EForm) (x : EIns) (at_ : Int)  : Run Tryd.prog 44 (retQ Tryd.prog (.c (.bool (exitOk c f x at_)))) (rg (bodyOf Tryd.f44) 14) (bCd2 at_) [.cells 86 (Ty.enc tChk c), .cells 88 (Ty.enc tForm f), .cells 46 (Ty.enc tIns x)] :=
 Run.roundA oc7 formed_lv 3000 Tryd.func44 mixed (formed_r14_R c f x at_) (formed_r14_R_ok c f x at_) (by
  unfold formed_r14_R
  refine g_iteD (fun h0 => ?_) (fun h0 => ?_)
  ·exact g_retb (by first | (simp only [exitOk, h0, if_true, if_false, Bool.false_eq_true, reduceCtorEq, Int.reduceEq, Int.reduceNeg, decide_true, Bool.not_true, Bool.not_false]; done) | (simp_all [exitOk]; done))
  ·refine g_iteD (fun h1 => ?_) (fun h1 => ?_)
   ·refine g_iteD (fun h2 => ?_) (fun h2 => ?_)
    ·exact g_retb (by first | (simp only [exitOk, h0, h1, h2, if_true, if_false, Bool.false_eq_true, reduceCtorEq, Int.reduceEq, Int.reduceNeg, decide_true, Bool.not_true, Bool.not_false]; done) | (simp_all [exitOk]; done))
    ·refine g_iteD (fun h3 => ?_) (fun h3 => ?_)
     ·refine g_iteD (fun h4 => ?_) (fun h4 => ?_)
      ·refine g_need (by first | omega | (constructor <;> omega) | (refine ⟨?_, ?_, ?_⟩ <;> simp <;> omega) | (rw [i64_iff]; omega) | (simp; omega)) ?_
       refine g_need (by first | omega | (constructor <;> omega) | (refine ⟨?_, ?_, ?_⟩ <;> simp <;> omega) | (rw [i64_iff]; omega) | (simp; omega)) ?_
       refine g_call (rightX_fun c (c.2.2.2.2.2.1.getD (Int.toNat x.2.2.2.2.2.1) tExit.dflt) at_) (fun h => nomatch h) ?_
       exact g_retb (by first | (simp only [exitOk, h0, h1, h2, h3, h4, if_true, if_false, Bool.false_eq_true, reduceCtorEq, Int.reduceEq, Int.reduceNeg, decide_true, Bool.not_true, Bool.not_false]; done) | (simp_all [exitOk]; done))
      ·exact g_retl (by first | (simp only [exitOk, h0, h1, h2, h3, h4, if_true, if_false, Bool.false_eq_true, reduceCtorEq, Int.reduceEq, Int.reduceNeg, decide_true, Bool.not_true, Bool.not_false]; done) | (simp_all [exitOk]; done))
     ·exact g_retl (by first | (simp only [exitOk, h0, h1, h2, h3, if_true, if_false, Bool.false_eq_true, reduceCtorEq, Int.reduceEq, Int.reduceNeg, decide_true, Bool.not_true, Bool.not_false]; done) | (simp_all [exitOk]; done))
   ·refine g_iteD (fun h2 => ?_) (fun h2 => ?_)
    ·refine g_iteD (fun h3 => ?_) (fun h3 => ?_)
     ·refine g_need (by first | omega | (constructor <;> omega) | (refine ⟨?_, ?_, ?_⟩ <;> simp <;> omega) | (rw [i64_iff]; omega) | (simp; omega)) ?_
      refine g_need (by first | omega | (constructor <;> omega) | (refine ⟨?_, ?_, ?_⟩ <;> simp <;> omega) | (rw [i64_iff]; omega) | (simp; omega)) ?_
      refine g_call (rightX_fun c (c.2.2.2.2.2.1.getD (Int.toNat x.2.2.2.2.2.1) tExit.dflt) at_) (fun h => nomatch h) ?_
      exact g_retb (by first | (simp only [exitOk, h0, h1, h2, h3, if_true, if_false, Bool.false_eq_true, reduceCtorEq, Int.reduceEq, Int.reduceNeg, decide_true, Bool.not_true, Bool.not_false]; done) | (simp_all [exitOk]; done))
     ·exact g_retl (by first | (simp only [exitOk, h0, h1, h2, h3, if_true, if_false, Bool.false_eq_true, reduceCtorEq, Int.reduceEq, Int.reduceNeg, decide_true, Bool.not_true, Bool.not_false]; done) | (simp_all [exitOk]; done))
    ·exact g_retl (by first | (simp only [exitOk, h0, h1, h2, if_true, if_false, Bool.false_eq_true, reduceCtorEq, Int.reduceEq, Int.reduceNeg, decide_true, Bool.not_true, Bool.not_false]; done) | (simp_all [exitOk]; done))
  )
theorem formed_r12 (c : EChk) (f : EForm) (x : EIns) (at_ : Int)  : Run Tryd.prog 44 (retQ Tryd.prog (.c (.bool (tail2F c f x at_)))) (rg (bodyOf Tryd.f44) 12) (bCd2 at_) [.cells 86 (Ty.enc tChk c), .cells 88 (Ty.enc tForm f), .cells 46 (Ty.enc tIns x)] :=
 Run.roundA oc7 formed_lv 3000 Tryd.func44 mixed (formed_r12_R c f x at_) (formed_r12_R_ok c f x at_) (by
  unfold formed_r12_R
  refine g_iteN (fun h0 => ?_) (fun h0 => ?_)
  ·refine g_iteN (fun h1 => ?_) (fun h1 => ?_)
   ·exact g_retl (by first | (simp only [tail2F, kOk, refOk, h0, h1, if_true, if_false, Bool.false_eq_true, reduceCtorEq, Int.reduceEq, Int.reduceNeg, decide_true, Bool.not_true, Bool.not_false]; done) | (simp_all [tail2F, kOk, refOk]; done))
   ·refine g_ite (fun h2 => ?_) (fun h2 => ?_)
    ·refine g_call (rightV_fun x.2.2.2.2.2.2) (fun h => nomatch h) ?_
     refine g_iteN (fun h3 => ?_) (fun h3 => ?_)
     ·exact g_retl (by first | (simp only [tail2F, kOk, refOk, h0, h1, h2, h3, if_true, if_false, Bool.false_eq_true, reduceCtorEq, Int.reduceEq, Int.reduceNeg, decide_true, Bool.not_true, Bool.not_false]; done) | (simp_all [tail2F, kOk, refOk]; done))
     ·refine g_iteD (fun h4 => ?_) (fun h4 => ?_)
      ·refine g_iteD (fun h5 => ?_) (fun h5 => ?_)
       ·exact g_retl (by first | (simp only [tail2F, kOk, refOk, h0, h1, h2, h3, h4, h5, if_true, if_false, Bool.false_eq_true, reduceCtorEq, Int.reduceEq, Int.reduceNeg, decide_true, Bool.not_true, Bool.not_false]; done) | (simp_all [tail2F, kOk, refOk]; done))
       ·refine g_stop (RunN.keep [0, 1, 2] (F2 (false :: true :: true :: true :: true :: F32 (F32 (F32 (F32 (F16 (F8 (F4 (false :: []))))))))) n0 (by decide) rfl rfl ?_)
        have ht := formed_r14 c f x at_; first | (simp only [tail2F, kOk, refOk, h0, h1, h2, h3, h4, h5, if_true, if_false, Bool.false_eq_true, reduceCtorEq, Int.reduceEq, Int.reduceNeg, decide_true, Bool.not_true, Bool.not_false]; exact ht) | (exfalso; simp_all; done)
      ·refine g_stop (RunN.keep [0, 1, 2] (F2 (false :: true :: true :: true :: true :: F32 (F32 (F32 (F32 (F16 (F8 (F4 (false :: []))))))))) n0 (by decide) rfl rfl ?_)
       have ht := formed_r14 c f x at_; first | (simp only [tail2F, kOk, refOk, h0, h1, h2, h3, h4, if_true, if_false, Bool.false_eq_true, reduceCtorEq, Int.reduceEq, Int.reduceNeg, decide_true, Bool.not_true, Bool.not_false]; exact ht) | (exfalso; simp_all; done)
    ·refine g_iteD (fun h3 => ?_) (fun h3 => ?_)
     ·refine g_iteD (fun h4 => ?_) (fun h4 => ?_)
      ·exact g_retl (by first | (simp only [tail2F, kOk, refOk, h0, h1, h2, h3, h4, if_true, if_false, Bool.false_eq_true, reduceCtorEq, Int.reduceEq, Int.reduceNeg, decide_true, Bool.not_true, Bool.not_false]; done) | (simp_all [tail2F, kOk, refOk]; done))
      ·refine g_stop (RunN.keep [0, 1, 2] (F2 (false :: true :: true :: true :: true :: F32 (F32 (F32 (F32 (F16 (F8 (F4 (false :: []))))))))) n0 (by decide) rfl rfl ?_)
       have ht := formed_r14 c f x at_; first | (simp only [tail2F, kOk, refOk, h0, h1, h2, h3, h4, if_true, if_false, Bool.false_eq_true, reduceCtorEq, Int.reduceEq, Int.reduceNeg, decide_true, Bool.not_true, Bool.not_false]; exact ht) | (exfalso; simp_all; done)
     ·refine g_stop (RunN.keep [0, 1, 2] (F2 (false :: true :: true :: true :: true :: F32 (F32 (F32 (F32 (F16 (F8 (F4 (false :: []))))))))) n0 (by decide) rfl rfl ?_)
      have ht := formed_r14 c f x at_; first | (simp only [tail2F, kOk, refOk, h0, h1, h2, h3, if_true, if_false, Bool.false_eq_true, reduceCtorEq, Int.reduceEq, Int.reduceNeg, decide_true, Bool.not_true, Bool.not_false]; exact ht) | (exfalso; simp_all; done)
  ·refine g_ite (fun h1 => ?_) (fun h1 => ?_)
   ·refine g_call (rightV_fun x.2.2.2.2.2.2) (fun h => nomatch h) ?_
    refine g_iteN (fun h2 => ?_) (fun h2 => ?_)
    ·exact g_retl (by first | (simp only [tail2F, kOk, refOk, h0, h1, h2, if_true, if_false, Bool.false_eq_true, reduceCtorEq, Int.reduceEq, Int.reduceNeg, decide_true, Bool.not_true, Bool.not_false]; done) | (simp_all [tail2F, kOk, refOk]; done))
    ·refine g_iteD (fun h3 => ?_) (fun h3 => ?_)
     ·refine g_iteD (fun h4 => ?_) (fun h4 => ?_)
      ·exact g_retl (by first | (simp only [tail2F, kOk, refOk, h0, h1, h2, h3, h4, if_true, if_false, Bool.false_eq_true, reduceCtorEq, Int.reduceEq, Int.reduceNeg, decide_true, Bool.not_true, Bool.not_false]; done) | (simp_all [tail2F, kOk, refOk]; done))
      ·refine g_stop (RunN.keep [0, 1, 2] (F2 (false :: true :: true :: true :: true :: F32 (F32 (F32 (F32 (F16 (F8 (F4 (false :: []))))))))) n0 (by decide) rfl rfl ?_)
       have ht := formed_r14 c f x at_; first | (simp only [tail2F, kOk, refOk, h0, h1, h2, h3, h4, if_true, if_false, Bool.false_eq_true, reduceCtorEq, Int.reduceEq, Int.reduceNeg, decide_true, Bool.not_true, Bool.not_false]; exact ht) | (exfalso; simp_all; done)
     ·refine g_stop (RunN.keep [0, 1, 2] (F2 (false :: true :: true :: true :: true :: F32 (F32 (F32 (F32 (F16 (F8 (F4 (false :: []))))))))) n0 (by decide) rfl rfl ?_)
      have ht := formed_r14 c f x at_; first | (simp only [tail2F, kOk, refOk, h0, h1, h2, h3, if_true, if_false, Bool.false_eq_true, reduceCtorEq, Int.reduceEq, Int.reduceNeg, decide_true, Bool.not_true, Bool.not_false]; exact ht) | (exfalso; simp_all; done)
   ·refine g_iteD (fun h2 => ?_) (fun h2 => ?_)
    ·refine g_iteD (fun h3 => ?_) (fun h3 => ?_)
     ·exact g_retl (by first | (simp only [tail2F, kOk, refOk, h0, h1, h2, h3, if_true, if_false, Bool.false_eq_true, reduceCtorEq, Int.reduceEq, Int.reduceNeg, decide_true, Bool.not_true, Bool.not_false]; done) | (simp_all [tail2F, kOk, refOk]; done))
     ·refine g_stop (RunN.keep [0, 1, 2] (F2 (false :: true :: true :: true :: true :: F32 (F32 (F32 (F32 (F16 (F8 (F4 (false :: []))))))))) n0 (by decide) rfl rfl ?_)
      have ht := formed_r14 c f x at_; first | (simp only [tail2F, kOk, refOk, h0, h1, h2, h3, if_true, if_false, Bool.false_eq_true, reduceCtorEq, Int.reduceEq, Int.reduceNeg, decide_true, Bool.not_true, Bool.not_false]; exact ht) | (exfalso; simp_all; done)
    ·refine g_stop (RunN.keep [0, 1, 2] (F2 (false :: true :: true :: true :: true :: F32 (F32 (F32 (F32 (F16 (F8 (F4 (false :: []))))))))) n0 (by decide) rfl rfl ?_)
     have ht := formed_r14 c f x at_; first | (simp only [tail2F, kOk, refOk, h0, h1, h2, if_true, if_false, Bool.false_eq_true, reduceCtorEq, Int.reduceEq, Int.reduceNeg, decide_true, Bool.not_true, Bool.not_false]; exact ht) | (exfalso; simp_all; done)
  )
theorem formed_r10 (c : EChk) (f : EForm) (x : EIns) (at_ : Int)  : Run Tryd.prog 44 (retQ Tryd.prog (.c (.bool (tailF c f x at_)))) (rg (bodyOf Tryd.f44) 10) (bCd2 at_) [.cells 86 (Ty.enc tChk c), .cells 88 (Ty.enc tForm f), .cells 46 (Ty.enc tIns x)] :=
 Run.roundA oc7 formed_lv 3000 Tryd.func44 mixed (formed_r10_R c f x at_) (formed_r10_R_ok c f x at_) (by
  unfold formed_r10_R
  refine g_iteD (fun h0 => ?_) (fun h0 => ?_)
  ·exact g_retl (by first | (simp only [tailF, regOk, h0, if_true, if_false, Bool.false_eq_true, reduceCtorEq, Int.reduceEq, Int.reduceNeg, decide_true, Bool.not_true, Bool.not_false]; done) | (simp_all [tailF, regOk]; done))
  ·refine g_iteD (fun h1 => ?_) (fun h1 => ?_)
   ·exact g_retl (by first | (simp only [tailF, regOk, h0, h1, if_true, if_false, Bool.false_eq_true, reduceCtorEq, Int.reduceEq, Int.reduceNeg, decide_true, Bool.not_true, Bool.not_false]; done) | (simp_all [tailF, regOk]; done))
   ·refine g_iteD (fun h2 => ?_) (fun h2 => ?_)
    ·refine g_iteD (fun h3 => ?_) (fun h3 => ?_)
     ·exact g_retl (by first | (simp only [tailF, regOk, h0, h1, h2, h3, if_true, if_false, Bool.false_eq_true, reduceCtorEq, Int.reduceEq, Int.reduceNeg, decide_true, Bool.not_true, Bool.not_false]; done) | (simp_all [tailF, regOk]; done))
     ·refine g_stop (RunN.keep [0, 1, 2] (F2 (false :: true :: true :: true :: true :: F32 (F32 (F32 (F32 (F16 (F8 (F4 (false :: []))))))))) n0 (by decide) rfl rfl ?_)
      have ht := formed_r12 c f x at_; first | (simp only [tailF, regOk, h0, h1, h2, h3, if_true, if_false, Bool.false_eq_true, reduceCtorEq, Int.reduceEq, Int.reduceNeg, decide_true, Bool.not_true, Bool.not_false]; exact ht) | (exfalso; simp_all; done)
    ·refine g_stop (RunN.keep [0, 1, 2] (F2 (false :: true :: true :: true :: true :: F32 (F32 (F32 (F32 (F16 (F8 (F4 (false :: []))))))))) n0 (by decide) rfl rfl ?_)
     have ht := formed_r12 c f x at_; first | (simp only [tailF, regOk, h0, h1, h2, if_true, if_false, Bool.false_eq_true, reduceCtorEq, Int.reduceEq, Int.reduceNeg, decide_true, Bool.not_true, Bool.not_false]; exact ht) | (exfalso; simp_all; done)
  )
theorem formed_r8 (c : EChk) (f : EForm) (x : EIns) (at_ : Int) (k : Int) (sh : Bool) (hk : 0 ≤ k ∧ k < 3) (hn : Run Tryd.prog 44 (retQ Tryd.prog (.c (.bool (restF x (k + 1) && tailF c f x at_)))) (lp (bodyOf Tryd.f44) 0) (J2 (.junk :: .c (.int .i64 at_) :: .c (.ptr 0 0 0 0) :: .c (.ptr 1 0 0 0) :: .c (.ptr 2 0 0 0) :: J2 (.c (.ptr 3 0 0 0) :: .c (.int .i64 (k + 1)) :: J32 (J32 (J32 (J32 (J16 (J8 (.junk :: []))))))))) [.cells 86 (Ty.enc tChk c), .cells 88 (Ty.enc tForm f), .cells 46 (Ty.enc tIns x), .vec 93 tI ([x.2.1, x.2.2.1, x.2.2.2.1])]) : Run Tryd.prog 44 (retQ Tryd.prog (.c (.bool (okV sh ([x.2.1, x.2.2.1, x.2.2.2.1].getD k.toNat tI.dflt) && (restF x (k + 1) && tailF c f x at_))))) (rg (bodyOf Tryd.f44) 8) (J2 (.junk :: .c (.int .i64 at_) :: .c (.ptr 0 0 0 0) :: .c (.ptr 1 0 0 0) :: .c (.ptr 2 0 0 0) :: J2 (.c (.ptr 3 0 0 0) :: .c (.int .i64 k) :: .c (.bool sh) :: J32 (J32 (J32 (J32 (J16 (J8 ([]))))))))) [.cells 86 (Ty.enc tChk c), .cells 88 (Ty.enc tForm f), .cells 46 (Ty.enc tIns x), .vec 93 tI ([x.2.1, x.2.2.1, x.2.2.2.1])] :=
 Run.roundA oc7 formed_lv 3000 Tryd.func44 mixed (formed_r8_R c f x at_ k sh) (formed_r8_R_ok c f x at_ k sh) (by
  unfold formed_r8_R
  refine g_ite (fun h0 => ?_) (fun h0 => ?_)
  ·refine g_need (by first | omega | (constructor <;> omega) | (refine ⟨?_, ?_, ?_⟩ <;> simp <;> omega) | (rw [i64_iff]; omega) | (simp; omega)) ?_
   refine g_need (by first | omega | (constructor <;> omega) | (refine ⟨?_, ?_, ?_⟩ <;> simp <;> omega) | (rw [i64_iff]; omega) | (simp; omega)) ?_
   refine g_iteD (fun h1 => ?_) (fun h1 => ?_)
   ·exact g_retl (by first | (exfalso; simp_all; done) | (exfalso; omega) | (simp only [okV, h0, h1, if_true, if_false, Bool.false_eq_true, decide_false, Bool.false_and]; done) | (have q := hk; simp_all [okV]; omega))
   ·refine g_iteN (fun h2 => ?_) (fun h2 => ?_)
    ·refine g_need (by first | omega | (constructor <;> omega) | (refine ⟨?_, ?_, ?_⟩ <;> simp <;> omega) | (rw [i64_iff]; omega) | (simp; omega)) ?_
     refine g_need (by first | omega | (constructor <;> omega) | (refine ⟨?_, ?_, ?_⟩ <;> simp <;> omega) | (rw [i64_iff]; omega) | (simp; omega)) ?_
     refine g_iteND (fun h3 => ?_) (fun h3 => ?_)
     ·exact g_retl (by first | (exfalso; simp_all; done) | (exfalso; omega) | (simp only [okV, h0, h1, h2, h3, if_true, if_false, Bool.false_eq_true, decide_false, Bool.false_and]; done) | (have q := hk; simp_all [okV]; omega))
     ·refine g_need (by first | omega | (constructor <;> omega) | (refine ⟨?_, ?_, ?_⟩ <;> simp <;> omega) | (rw [i64_iff]; omega) | (simp; omega)) ?_
      refine g_stop (RunN.keep [0, 1, 2, 3] (F2 (false :: true :: true :: true :: true :: F2 (true :: true :: F32 (F32 (F32 (F32 (F16 (F8 (false :: []))))))))) n0 (by decide) rfl rfl ?_)
      first | (exfalso; simp_all; done) | (simp only [okV, h0, h1, h2, h3, if_true, if_false, Bool.false_eq_true, decide_true, Bool.true_and]; exact hn) | (have e : okV sh ([x.2.1, x.2.2.1, x.2.2.2.1].getD k.toNat tI.dflt) = true := (by simp only [okV, h0, h1, h2, h3, if_true, if_false, Bool.false_eq_true]; exact decide_eq_true (by omega)); simp only [h0, h1, h2, h3] at e; simp only [h0, h1, h2, h3, e, Bool.true_and]; exact hn)
    ·refine g_need (by first | omega | (constructor <;> omega) | (refine ⟨?_, ?_, ?_⟩ <;> simp <;> omega) | (rw [i64_iff]; omega) | (simp; omega)) ?_
     refine g_stop (RunN.keep [0, 1, 2, 3] (F2 (false :: true :: true :: true :: true :: F2 (true :: true :: F32 (F32 (F32 (F32 (F16 (F8 (false :: []))))))))) n0 (by decide) rfl rfl ?_)
     first | (exfalso; simp_all; done) | (simp only [okV, h0, h1, h2, if_true, if_false, Bool.false_eq_true, decide_true, Bool.true_and]; exact hn) | (have e : okV sh ([x.2.1, x.2.2.1, x.2.2.2.1].getD k.toNat tI.dflt) = true := (by simp only [okV, h0, h1, h2, if_true, if_false, Bool.false_eq_true]; exact decide_eq_true (by omega)); simp only [h0, h1, h2] at e; simp only [h0, h1, h2, e, Bool.true_and]; exact hn)
  ·refine g_iteN (fun h1 => ?_) (fun h1 => ?_)
   ·refine g_need (by first | omega | (constructor <;> omega) | (refine ⟨?_, ?_, ?_⟩ <;> simp <;> omega) | (rw [i64_iff]; omega) | (simp; omega)) ?_
    refine g_need (by first | omega | (constructor <;> omega) | (refine ⟨?_, ?_, ?_⟩ <;> simp <;> omega) | (rw [i64_iff]; omega) | (simp; omega)) ?_
    refine g_iteND (fun h2 => ?_) (fun h2 => ?_)
    ·exact g_retl (by first | (exfalso; simp_all; done) | (exfalso; omega) | (simp only [okV, h0, h1, h2, if_true, if_false, Bool.false_eq_true, decide_false, Bool.false_and]; done) | (have q := hk; simp_all [okV]; omega))
    ·refine g_need (by first | omega | (constructor <;> omega) | (refine ⟨?_, ?_, ?_⟩ <;> simp <;> omega) | (rw [i64_iff]; omega) | (simp; omega)) ?_
     refine g_stop (RunN.keep [0, 1, 2, 3] (F2 (false :: true :: true :: true :: true :: F2 (true :: true :: F32 (F32 (F32 (F32 (F16 (F8 (false :: []))))))))) n0 (by decide) rfl rfl ?_)
     first | (exfalso; simp_all; done) | (simp only [okV, h0, h1, h2, if_true, if_false, Bool.false_eq_true, decide_true, Bool.true_and]; exact hn) | (have e : okV sh ([x.2.1, x.2.2.1, x.2.2.2.1].getD k.toNat tI.dflt) = true := (by simp only [okV, h0, h1, h2, if_true, if_false, Bool.false_eq_true]; exact decide_eq_true (by omega)); simp only [h0, h1, h2] at e; simp only [h0, h1, h2, e, Bool.true_and]; exact hn)
   ·refine g_need (by first | omega | (constructor <;> omega) | (refine ⟨?_, ?_, ?_⟩ <;> simp <;> omega) | (rw [i64_iff]; omega) | (simp; omega)) ?_
    refine g_stop (RunN.keep [0, 1, 2, 3] (F2 (false :: true :: true :: true :: true :: F2 (true :: true :: F32 (F32 (F32 (F32 (F16 (F8 (false :: []))))))))) n0 (by decide) rfl rfl ?_)
    first | (exfalso; simp_all; done) | (simp only [okV, h0, h1, if_true, if_false, Bool.false_eq_true, decide_true, Bool.true_and]; exact hn) | (have e : okV sh ([x.2.1, x.2.2.1, x.2.2.2.1].getD k.toNat tI.dflt) = true := (by simp only [okV, h0, h1, if_true, if_false, Bool.false_eq_true]; exact decide_eq_true (by omega)); simp only [h0, h1] at e; simp only [h0, h1, e, Bool.true_and]; exact hn)
  )
theorem formed_l0 (c : EChk) (f : EForm) (x : EIns) (at_ : Int) (k : Int) (hk : 0 ≤ k) : Run Tryd.prog 44 (retQ Tryd.prog (.c (.bool (restF x k && tailF c f x at_)))) (lp (bodyOf Tryd.f44) 0) (bCd1 at_ k) [.cells 86 (Ty.enc tChk c), .cells 88 (Ty.enc tForm f), .cells 46 (Ty.enc tIns x), .vec 93 tI ([x.2.1, x.2.2.1, x.2.2.2.1])] :=
 Run.roundA oc7 formed_lv 3000 Tryd.func44 mixed (formed_l0_R c f x at_ k) (formed_l0_R_ok c f x at_ k) (by
  unfold formed_l0_R
  refine g_iteD (fun h0 => ?_) (fun h0 => ?_)
  ·refine g_iteD (fun h1 => ?_) (fun h1 => ?_)
   ·refine g_iteD (fun h2 => ?_) (fun h2 => ?_)
    ·refine g_stop (RunN.keepU [0, 1, 2, 3] (F2 (false :: true :: true :: true :: true :: F2 (true :: true :: true :: F32 (F32 (F32 (F32 (F16 (F8 ([]))))))))) (F8 (F2 (false :: true :: []))) ([]) n0 (by decide) rfl rfl ?_)
     have ht := formed_r8 c f x at_ k true (by omega) (formed_l0 c f x at_ (k + 1) (by omega)); have e : shF x k = true := (by simp only [shF, h0, h1, h2, if_true, if_false, reduceCtorEq, Int.reduceEq]); rw [restF_step (by omega) (by omega), e, Bool.and_assoc]; exact ht
    ·refine g_iteD (fun h3 => ?_) (fun h3 => ?_)
     ·refine g_stop (RunN.keepU [0, 1, 2, 3] (F2 (false :: true :: true :: true :: true :: F2 (true :: true :: true :: F32 (F32 (F32 (F32 (F16 (F8 ([]))))))))) (F8 (F2 (false :: true :: []))) ([]) n0 (by decide) rfl rfl ?_)
      have ht := formed_r8 c f x at_ k (decide (x.2.2.2.2.1 = 1)) (by omega) (formed_l0 c f x at_ (k + 1) (by omega)); have e : shF x k = (decide (x.2.2.2.2.1 = 1)) := (by simp only [shF, h0, h1, h2, h3, if_true, if_false, reduceCtorEq, Int.reduceEq]); rw [restF_step (by omega) (by omega), e, Bool.and_assoc]; exact ht
     ·refine g_stop (RunN.keepU [0, 1, 2, 3] (F2 (false :: true :: true :: true :: true :: F2 (true :: true :: true :: F32 (F32 (F32 (F32 (F16 (F8 ([]))))))))) (F8 (F2 (false :: true :: []))) ([]) n0 (by decide) rfl rfl ?_)
      have ht := formed_r8 c f x at_ k false (by omega) (formed_l0 c f x at_ (k + 1) (by omega)); have e : shF x k = false := (by simp only [shF, h0, h1, h2, h3, if_true, if_false, reduceCtorEq, Int.reduceEq]); rw [restF_step (by omega) (by omega), e, Bool.and_assoc]; exact ht
   ·refine g_stop (RunN.keepU [0, 1, 2, 3] (F2 (false :: true :: true :: true :: true :: F2 (true :: true :: true :: F32 (F32 (F32 (F32 (F16 (F8 ([]))))))))) (F8 (F2 (false :: true :: []))) ([]) n0 (by decide) rfl rfl ?_)
    have ht := formed_r8 c f x at_ k false (by omega) (formed_l0 c f x at_ (k + 1) (by omega)); have e : shF x k = false := (by simp only [shF, h0, h1, if_true, if_false, reduceCtorEq, Int.reduceEq]); rw [restF_step (by omega) (by omega), e, Bool.and_assoc]; exact ht
  ·refine g_stop (RunN.keep [0, 1, 2] (F2 (false :: true :: true :: true :: true :: F32 (F32 (F32 (F32 (F16 (F8 (F4 (false :: []))))))))) n0 (by decide) rfl rfl ?_)
   have ht := formed_r10 c f x at_; rw [restF_ge (by omega), Bool.true_and]; exact ht
  )
 termination_by (3 - k).toNat
 decreasing_by all_goals omega
theorem formed_fun (c : EChk) (f : EForm) (x : EIns) (at_ : Int) (hf : 0 ≤ f.1 ∧ f.1 ≤ 3) : AFun Tryd.prog 44 [.agg (tChk.enc c), .agg (tForm.enc f), .agg (tIns.enc x), .c (.int .i64 at_)] (.c (.bool (formedF c f x at_))) :=
 AFun.of oc7 formed_lv 3000 Tryd.func44 mixed rfl (by decide) (Nat.le_of_ble_eq_true rfl) _ (formed_T_ok c f x at_) fun hF => by
  unfold formed_T
  refine g_need (by first | omega | (constructor <;> omega) | (refine ⟨?_, ?_, ?_⟩ <;> simp <;> omega) | (rw [i64_iff]; omega) | (simp; omega)) ?_
  refine g_need (by first | omega | (constructor <;> omega) | (refine ⟨?_, ?_, ?_⟩ <;> simp <;> omega) | (rw [i64_iff]; omega) | (simp; omega)) ?_
  refine g_need (by first | omega | (constructor <;> omega) | (refine ⟨?_, ?_, ?_⟩ <;> simp <;> omega) | (rw [i64_iff]; omega) | (simp; omega)) ?_
  refine g_call (values_fun c (([x.2.1, x.2.2.1, x.2.2.2.1]).take (Int.toNat f.1)) at_) (fun _ => rfl) ?_
  refine g_iteN (fun h0 => ?_) (fun h0 => ?_)
  ·exact g_retl (by simp only [formedF, h0, Bool.false_and])
  ·refine g_stop (RunN.keep [0, 1, 2, 3] (F2 (false :: true :: true :: true :: true :: F2 (true :: true :: F32 (F32 (F32 (F32 (F16 (F8 (false :: []))))))))) n0 (by decide) rfl rfl ?_)
   have := formed_l0 c f x at_ f.1 hf.1; simp only [formedF, h0, Bool.true_and]; exact this

end Go.Proofs.YtefkifdhjabdiaaDoor
namespace Go.Proofs.YtefkifdhjabdiaaDoor
set_option linter.unusedVariables false
set_option linter.unusedSimpArgs false
open Go.RowKit

/-- What an order's three places name, by the order: three letters. -/
def formF (op : Int) : Option (UInt8 × UInt8 × UInt8) :=
 if op = 1 then some (114, 107, 45) else
 if op = 2 then some (114, 114, 45) else
 if op = 3 then some (114, 114, 114) else
 if op = 4 then some (114, 114, 114) else
 if op = 5 then some (114, 114, 114) else
 if op = 6 then some (114, 114, 114) else
 if op = 7 then some (114, 114, 114) else
 if op = 8 then some (114, 114, 114) else
 if op = 9 then some (114, 114, 114) else
 if op = 10 then some (114, 114, 114) else
 if op = 11 then some (114, 114, 45) else
 if op = 12 then some (114, 114, 45) else
 if op = 13 then some (97, 45, 45) else
 if op = 14 then some (97, 45, 45) else
 if op = 15 then some (114, 97, 45) else
 if op = 16 then some (114, 45, 45) else
 if op = 17 then some (114, 114, 116) else
 if op = 18 then some (114, 116, 114) else
 if op = 19 then some (114, 108, 110) else
 if op = 20 then some (114, 114, 114) else
 if op = 21 then some (114, 114, 114) else
 if op = 22 then some (114, 45, 45) else
 if op = 23 then some (114, 114, 45) else
 if op = 24 then some (114, 114, 45) else
 if op = 25 then some (114, 117, 45) else
 if op = 26 then some (114, 102, 45) else
 if op = 27 then some (114, 99, 110) else
 if op = 28 then some (114, 45, 45) else
 if op = 29 then some (114, 45, 45) else
 if op = 30 then some (114, 97, 45) else
 if op = 31 then some (45, 45, 45) else
 if op = 32 then some (114, 114, 45) else
 if op = 33 then some (114, 45, 45) else
 if op = 34 then some (114, 45, 45) else
 if op = 35 then some (114, 114, 45) else
 if op = 36 then some (114, 114, 45) else
 if op = 37 then some (114, 45, 45) else
 if op = 38 then some (114, 45, 45) else
 none
def formS (op : Int) : ByteArray := match formF op with | some (a, b, c) => ⟨#[a, b, c]⟩ | none => ⟨#[]⟩
theorem form_none {op : Int} (h : op < 1 ∨ 39 ≤ op) : formF op = none := by
 unfold formF
 rw [if_neg (by omega)]
 rw [if_neg (by omega)]
 rw [if_neg (by omega)]
 rw [if_neg (by omega)]
 rw [if_neg (by omega)]
 rw [if_neg (by omega)]
 rw [if_neg (by omega)]
 rw [if_neg (by omega)]
 rw [if_neg (by omega)]
 rw [if_neg (by omega)]
 rw [if_neg (by omega)]
 rw [if_neg (by omega)]
 rw [if_neg (by omega)]
 rw [if_neg (by omega)]
 rw [if_neg (by omega)]
 rw [if_neg (by omega)]
 rw [if_neg (by omega)]
 rw [if_neg (by omega)]
 rw [if_neg (by omega)]
 rw [if_neg (by omega)]
 rw [if_neg (by omega)]
 rw [if_neg (by omega)]
 rw [if_neg (by omega)]
 rw [if_neg (by omega)]
 rw [if_neg (by omega)]
 rw [if_neg (by omega)]
 rw [if_neg (by omega)]
 rw [if_neg (by omega)]
 rw [if_neg (by omega)]
 rw [if_neg (by omega)]
 rw [if_neg (by omega)]
 rw [if_neg (by omega)]
 rw [if_neg (by omega)]
 rw [if_neg (by omega)]
 rw [if_neg (by omega)]
 rw [if_neg (by omega)]
 rw [if_neg (by omega)]
 rw [if_neg (by omega)]
theorem form_cases {op : Int} (h1 : 1 ≤ op) (h2 : op < 39) : op = 1 ∨ op = 2 ∨ op = 3 ∨ op = 4 ∨ op = 5 ∨ op = 6 ∨ op = 7 ∨ op = 8 ∨ op = 9 ∨ op = 10 ∨ op = 11 ∨ op = 12 ∨ op = 13 ∨ op = 14 ∨ op = 15 ∨ op = 16 ∨ op = 17 ∨ op = 18 ∨ op = 19 ∨ op = 20 ∨ op = 21 ∨ op = 22 ∨ op = 23 ∨ op = 24 ∨ op = 25 ∨ op = 26 ∨ op = 27 ∨ op = 28 ∨ op = 29 ∨ op = 30 ∨ op = 31 ∨ op = 32 ∨ op = 33 ∨ op = 34 ∨ op = 35 ∨ op = 36 ∨ op = 37 ∨ op = 38 := by omega
def formTab : Array Value := #[.string ⟨#[]⟩, .string ⟨#[114, 107, 45]⟩, .string ⟨#[114, 114, 45]⟩, .string ⟨#[114, 114, 114]⟩, .string ⟨#[114, 114, 114]⟩, .string ⟨#[114, 114, 114]⟩, .string ⟨#[114, 114, 114]⟩, .string ⟨#[114, 114, 114]⟩, .string ⟨#[114, 114, 114]⟩, .string ⟨#[114, 114, 114]⟩, .string ⟨#[114, 114, 114]⟩, .string ⟨#[114, 114, 45]⟩, .string ⟨#[114, 114, 45]⟩, .string ⟨#[97, 45, 45]⟩, .string ⟨#[97, 45, 45]⟩, .string ⟨#[114, 97, 45]⟩, .string ⟨#[114, 45, 45]⟩, .string ⟨#[114, 114, 116]⟩, .string ⟨#[114, 116, 114]⟩, .string ⟨#[114, 108, 110]⟩, .string ⟨#[114, 114, 114]⟩, .string ⟨#[114, 114, 114]⟩, .string ⟨#[114, 45, 45]⟩, .string ⟨#[114, 114, 45]⟩, .string ⟨#[114, 114, 45]⟩, .string ⟨#[114, 117, 45]⟩, .string ⟨#[114, 102, 45]⟩, .string ⟨#[114, 99, 110]⟩, .string ⟨#[114, 45, 45]⟩, .string ⟨#[114, 45, 45]⟩, .string ⟨#[114, 97, 45]⟩, .string ⟨#[45, 45, 45]⟩, .string ⟨#[114, 114, 45]⟩, .string ⟨#[114, 45, 45]⟩, .string ⟨#[114, 45, 45]⟩, .string ⟨#[114, 114, 45]⟩, .string ⟨#[114, 114, 45]⟩, .string ⟨#[114, 45, 45]⟩, .string ⟨#[114, 45, 45]⟩]
theorem formTab_at : ∀ i : Nat, i < 39 → formTab[i]? = some (.string (formS i)) := by
 intro i hi
 rcases Nat.lt_or_ge i 1 with h | h
 ·obtain rfl : i = 0 := by omega
  rfl
 ·rcases form_cases (op := i) (by omega) (by omega) with h | h | h | h | h | h | h | h | h | h | h | h | h | h | h | h | h | h | h | h | h | h | h | h | h | h | h | h | h | h | h | h | h | h | h | h | h | h
  all_goals
   obtain rfl := Int.ofNat.inj h
   rfl
theorem wpList_build_eq {P : Program} {ops : Array Oper} {rest : List Oper} {o : Oper} {a : Act} {w : World} {Q : Exit → Act → World → Prop} (hg : o.guard = none) (t : TypeId) (parts : Array (Nat × Operand)) (ho : o.op = .build t parts) (cells : Array Value)
  (hf : P.built t (parts.map fun (i, x) => (i, a.eval x)).toList = some cells)
  (h : wpList P ops Q rest (a.put o.dst (.agg cells)) w) : wpList P ops Q (o :: rest) a w := by
 refine wpList_build hg t parts ho (by rw [hf]; rfl) ?_
 rw [hf]
 exact h
theorem wpList_store_tab {P : Program} {ops : Array Oper} {rest : List Oper} {o : Oper} {a : Act} {w : World} {Q : Exit → Act → World → Prop} (hgd : o.guard = none) (ty : TypeId) (x y : Operand) (ho : o.op = .store ty x y)
  (g : Nat) (cells : Array Value) (hx : a.eval x = .pointer (some ⟨g, 0, none⟩)) (hy : a.eval y = .agg cells)
  (t : TypeId) (old : Array Value) (hg : w.heap[g]? = some (.cells old t (0, 0))) (hi : (P.info? ty).map (·.size) = some cells.size)
  (hold : old.size = cells.size) (h1 : cells.all (·.oneCell') = true)
  (R : World → Prop) (hR : R (w.setRow g cells)) (h : ∀ w1, R w1 → wpList P ops Q rest (a.put o.dst undef) w1) : wpList P ops Q (o :: rest) a w :=
 wpList_store_row hgd ty x y ho g cells hx hy t old hg hi hold h1 (h _ hR)
theorem below_setRow_new (w : World) (o : Obj) (cells : Array Value) : Below w.heap.size w ((w.alloc o).setRow w.heap.size cells) := by
 have h := (Below.refl w.heap.size w).alloc (Nat.le_refl _) o
 exact ⟨h.os, h.tape, h.output, by simp, fun k hk => by rw [setRow_other _ _ _ _ (by omega)]; exact h.block k hk⟩
theorem tab_cell (w : World) (old : Array Value) (t : TypeId) (i : Nat) (hi : i < 39) : ((w.alloc (.cells old t)).setRow w.heap.size formTab).cell? ⟨w.heap.size, i, none⟩ = some (.string (formS i)) := by
 rw [cell_setRow_same _ _ _ _ _ _ _ (heap_alloc_new _ _)]
 exact formTab_at i hi
set_option maxRecDepth 100000 in
set_option maxHeartbeats 8000000 in
theorem form_any (op : Int) (w : World) : Calls Tryd.prog 144 #[.int .i64 op] w fun e w' => e = .returned (.string (formS op)) ∧ Below w.heap.size w w' := by
 by_cases h1 : op < 1
 ·rw [show formS op = ⟨#[]⟩ by simp only [formS, form_none (.inl h1)]]
  go_enter Tryd.func144, Tryd.ntmps144
  go_wp2_with (first | (with_reducible refine wpList_build_eq rfl _ _ rfl formTab (by as_aux_lemma => kernel_rfl) ?_) | (with_reducible refine wpList_store_tab rfl _ _ _ rfl _ formTab rfl rfl _ _ (heap_alloc_new _ _) (by as_aux_lemma => kernel_rfl) rfl (by as_aux_lemma => kernel_rfl) (fun w1 => Hid (Below w.heap.size w w1)) (Lib.hid (below_setRow_new _ _ _)) ?_; intro w1 hb))
  go_ret
  exact ⟨rfl, hb.out⟩
 by_cases h2 : 39 ≤ op
 ·rw [show formS op = ⟨#[]⟩ by simp only [formS, form_none (.inr h2)]]
  go_enter Tryd.func144, Tryd.ntmps144
  go_wp2_with (first | (with_reducible refine wpList_build_eq rfl _ _ rfl formTab (by as_aux_lemma => kernel_rfl) ?_) | (with_reducible refine wpList_store_tab rfl _ _ _ rfl _ formTab rfl rfl _ _ (heap_alloc_new _ _) (by as_aux_lemma => kernel_rfl) rfl (by as_aux_lemma => kernel_rfl) (fun w1 => Hid (Below w.heap.size w w1)) (Lib.hid (below_setRow_new _ _ _)) ?_; intro w1 hb))
  go_ret
  exact ⟨rfl, hb.out⟩
 obtain ⟨i, rfl⟩ := Int.eq_ofNat_of_zero_le (show 0 ≤ op by omega)
 have hi : i < 39 := by omega
 go_enter Tryd.func144, Tryd.ntmps144
 go_wp2_with (first | (with_reducible refine wpList_build_eq rfl _ _ rfl formTab (by as_aux_lemma => kernel_rfl) ?_) | (with_reducible refine wpList_store_tab rfl _ _ _ rfl _ formTab rfl rfl _ _ (heap_alloc_new _ _) (by as_aux_lemma => kernel_rfl) rfl (by as_aux_lemma => kernel_rfl) (fun w1 => w1.cell? ⟨w.heap.size, i, none⟩ = some (.string (formS i)) ∧ Hid (Below w.heap.size w w1)) ⟨tab_cell _ _ _ _ hi, Lib.hid (below_setRow_new _ _ _)⟩ ?_; rintro w1 ⟨e0, hb⟩))
 go_ret
 exact ⟨rfl, hb.out⟩
end Go.Proofs.YtefkifdhjabdiaaDoor
namespace Go.Proofs.YtefkifdhjabdiaaDoor
set_option linter.unusedVariables false
set_option linter.unusedSimpArgs false
/-- What a look knows: how many functions, constants, texts, registers, caught ones, orders. -/
structure Lk where
 nf : Nat
 nc : Nat
 nt : Nat
 regs : Int
 ng : Nat
 no : Nat
def namesF (l : Lk) (c : UInt8) (n : Int) : Bool :=
 if c = 114 then withinF n 0 (l.regs - 1)
 else if c = 107 then withinF n 0 ((l.nc : Int) - 1)
 else if c = 116 then withinF n 0 ((l.nt : Int) - 1)
 else if c = 97 then withinF n 0 ((l.no : Int) - 1)
 else if c = 117 then withinF n 0 ((l.ng : Int) - 1)
 else if c = 102 then withinF n 1 ((l.nf : Int) - 1)
 else if c = 108 ∨ c = 99 ∨ c = 110 then withinF n 0 l.regs
 else decide (n = 0)
/-- The letters that occur. -/
theorem form_letters {op : Int} {a b c : UInt8} (h : formF op = some (a, b, c)) : (a = 114 ∨ a = 97 ∨ a = 45) ∧ (b = 114 ∨ b = 107 ∨ b = 97 ∨ b = 116 ∨ b = 108 ∨ b = 117 ∨ b = 102 ∨ b = 99 ∨ b = 45) ∧ (c = 114 ∨ c = 116 ∨ c = 110 ∨ c = 45) := by
 rcases Int.lt_or_le op 1 with h1 | h1
 ·rw [form_none (.inl h1)] at h; cases h
 rcases Int.lt_or_le op 39 with h2 | h2
 ·rcases form_cases h1 h2 with rfl | rfl | rfl | rfl | rfl | rfl | rfl | rfl | rfl | rfl | rfl | rfl | rfl | rfl | rfl | rfl | rfl | rfl | rfl | rfl | rfl | rfl | rfl | rfl | rfl | rfl | rfl | rfl | rfl | rfl | rfl | rfl | rfl | rfl | rfl | rfl | rfl | rfl
  all_goals
   have h : some _ = some (a, b, c) := h
   injection h with h
   injection h with ha h
   injection h with hb hc
   subst ha hb hc
   decide
 ·rw [form_none (.inr h2)] at h; cases h
def caughtF (regs : Int) (ng : Nat) (cs : List Int) : Bool := !(cs.any fun c => !withinF c 0 (regs - 1) && !withinF c (-(ng : Int)) (-1))
def ordTailF (fns : List Fn) (l : Lk) (gen : Bool) (at_ : Int) (i : Ord) : Bool :=
 if i.op = 14 then decide (i.a ≤ at_)
 else if i.op = 19 then decide (i.b + i.c ≤ l.regs)
 else if i.op = 27 then withinF (i.b + i.c) 0 (l.regs - 1)
 else if i.op = 26 then match fns[i.b.toNat]? with | some f => caughtF l.regs l.ng f.caught | none => true
 else if i.op = 32 then gen
 else true
def orderF (fns : List Fn) (l : Lk) (gen : Bool) (at_ : Int) (i : Ord) : Bool :=
 match formF i.op with
 | none => false
 | some (a, b, c) => withinF i.line 0 2000 && namesF l a i.a && namesF l b i.b && namesF l c i.c && ordTailF fns l gen at_ i
theorem within_iff {n lo hi : Int} : withinF n lo hi = true ↔ lo ≤ n ∧ n ≤ hi := by simp [withinF]
end Go.Proofs.YtefkifdhjabdiaaDoor
namespace Go.Proofs.YtefkifdhjabdiaaDoor
set_option linter.unusedVariables false
set_option linter.unusedSimpArgs false
open Go.RowKit

structure Tr where
 reg : Int
 at_ : Int
deriving DecidableEq
def Tr.cells (s : Tr) : Array Value := #[.int .i64 s.reg, .int .i64 s.at_]
def rdTry : Rd Tr where
 sz := 2
 K := fun _ _ x cs => cs = x.cells.toList ∧ Rd.IsInt x.reg ∧ Rd.IsInt x.at_
 len := fun h' => by rw [h'.1]; rfl
 one := fun h' u hu => by
  rw [h'.1] at hu
  simp [Tr.cells] at hu
  rcases hu with h | h <;> rw [h] <;> rfl
 move := fun _ h => h
 mono := fun _ h => h
 bound := fun h => h

set_option maxRecDepth 100000 in
set_option maxHeartbeats 4000000 in
/-- Whether two lists of tries are the same. -/
theorem eqTry_any (w : World) (A B : Option Addr) (n m c c' : Nat) (xs ys : List Tr) (ok ok' : Nat → Prop) (hA : rdTry.C ok w A n xs) (hB : rdTry.C ok' w B m ys) :
  Calls Tryd.prog 164 #[.slice A n c, .slice B m c'] w fun e w' => e = .returned (.bool (decide (xs = ys))) ∧ Below w.heap.size w w' := by
 have hn := hA.1
 have hm := hB.1
 have hn2 := hA.2.1
 by_cases hnm : n = m
 ·subst hnm
  have hd : ((n : Int) != (n : Int)) = false := by simp
  have HA := Lib.hid hA
  have HB := Lib.hid hB
  have Hn := Lib.hid hn
  have Hm := Lib.hid hm
  clear hA hB hn hm
  go_enter Tryd.func164, Tryd.ntmps164
  go_wp2_with fail
  go_loopw [13] (fun I w1 => ∃ i : Nat, I = .int .i64 (i : Int) ∧ i ≤ n ∧ xs.take i = ys.take i ∧ Hid (Below w.heap.size w w1)) (fun i _ => n - (intOf i).toNat)
  case atStart => exact ⟨0, rfl, Nat.zero_le _, rfl, Lib.hid (Below.refl _ _)⟩
  case round =>
   obtain ⟨i, rfl, hi, ht, HW⟩ := hrel
   have HT := Lib.hid ht
   clear ht
   by_cases hlt : i < n
   ·obtain ⟨x, hx⟩ : ∃ x, xs[i]? = some x := ⟨_, List.getElem?_eq_getElem (by rw [Hn.out]; exact hlt)⟩
    obtain ⟨y, hy⟩ : ∃ y, ys[i]? = some y := ⟨_, List.getElem?_eq_getElem (by rw [Hm.out]; exact hlt)⟩
    obtain ⟨ad, cs, rfl, _, _, ⟨rfl, _⟩, hc0, hcj⟩ := (HA.out.move (fun k _ hk => HW.out.block k hk)).elem i _ hx
    obtain ⟨bd, cs, rfl, _, _, ⟨rfl, _⟩, hd0, hdj⟩ := (HB.out.move (fun k _ hk => HW.out.block k hk)).elem i _ hy
    have e0 : wr.cell? (ad.add (i * 2)) = some (.int .i64 x.reg) := hc0 _ rfl
    have e1 : wr.cell? (bd.add (i * 2)) = some (.int .i64 y.reg) := hd0 _ rfl
    have e2 : wr.cell? ⟨(ad.add (i * 2)).block, (ad.add (i * 2)).off + 1, none⟩ = some (.int .i64 x.at_) := hcj 0 _ rfl
    have e3 : wr.cell? ⟨(bd.add (i * 2)).block, (bd.add (i * 2)).off + 1, none⟩ = some (.int .i64 y.at_) := hdj 0 _ rfl
    have hx' := Lib.hid hx
    have hy' := Lib.hid hy
    clear hc0 hd0 hcj hdj hx hy
    obtain ⟨xr, xa⟩ := x
    obtain ⟨yr, ya⟩ := y
    simp only at e0 e1 e2 e3
    have hlt1 : (i : Int) < (n : Int) := by omega
    have hlt2 : (0 : Int) ≤ (i : Int) := by omega
    by_cases hr : xr = yr
    ·subst hr
     by_cases ha : xa = ya
     ·subst ha
      go_wp2_with fail
      go_quiet (fail)
      go_wp2_with fail
      go_roundw
      case rel => exact ⟨i + 1, by go_num, hlt, by rw [List.take_add_one, List.take_add_one, HT.out, hx'.out, hy'.out], Lib.hid ⟨HW.out.os, HW.out.tape, HW.out.output, HW.out.size, HW.out.block⟩⟩
      case measure => simp [intOf]; omega
     ·have hb : (xa != ya) = true := by simpa using ha
      have hb' : (xa == ya) = false := by simpa using ha
      go_wp2_with fail
      go_quiet (fail)
      go_wp2_with fail
      go_ret
      refine ⟨?_, ⟨HW.out.os, HW.out.tape, HW.out.output, HW.out.size, HW.out.block⟩⟩
      have : ¬ xs = ys := fun h => ha (by have := hx'.out; rw [h, hy'.out] at this; injection this with this; injection this with _ this; exact this.symm)
      simp [this]
    ·have hb : (xr != yr) = true := by simpa using hr
     have hb' : (xr == yr) = false := by simpa using hr
     go_wp2_with fail
     go_quiet (fail)
     go_wp2_with fail
     go_ret
     refine ⟨?_, ⟨HW.out.os, HW.out.tape, HW.out.output, HW.out.size, HW.out.block⟩⟩
     have : ¬ xs = ys := fun h => hr (by have := hx'.out; rw [h, hy'.out] at this; injection this with this; injection this with this _; exact this.symm)
     simp [this]
   ·go_wp2_with fail
    go_ret
    refine ⟨?_, HW.out⟩
    have h1 := HT.out
    rw [List.take_of_length_le (by rw [Hn.out]; omega), List.take_of_length_le (by rw [Hm.out]; omega)] at h1
    simp [h1]
 ·have hb : ((n : Int) != (m : Int)) = true := by simp; omega
  have hne : decide (xs = ys) = false := by
   simp only [decide_eq_false_iff_not]
   intro h; rw [h] at hn; omega
  have Hne := Lib.hid hne
  clear hne hn hm hA hB
  rw [Hne.out]
  go_enter Tryd.func164, Tryd.ntmps164
  go_wp2_with fail
  go_ret
  exact ⟨rfl, Below.refl _ _⟩
end Go.Proofs.YtefkifdhjabdiaaDoor
namespace Go.Proofs.YtefkifdhjabdiaaDoor
set_option linter.unusedVariables false
set_option linter.unusedSimpArgs false
open Go.RowKit

theorem run_eql_some_nil {P : Program} (w : World) (t e : TypeId) (a : Addr) (n c : Nat) (h : P.underlying t = some (.slice e)) : (binOp .eql t (.slice (some a) n c) (.slice none 0 0)).run P w = .ok (.bool false) w := by
 simp only [binOp]
 simp [Op.equal, Op.maxDepth, Lib.run_equalIn_slice_nil w 9999 t e (some a) n c 0 0 h]

theorem run_eql_nil_nil {P : Program} (w : World) (t e : TypeId) (h : P.underlying t = some (.slice e)) : (binOp .eql t (.slice none 0 0) (.slice none 0 0)).run P w = .ok (.bool true) w := by
 simp only [binOp]
 simp [Op.equal, Op.maxDepth, Lib.run_equalIn_slice_nil w 9999 t e none 0 0 0 0 h]
theorem infoTry : (Tryd.prog.info? 226).map (fun i => (i.zero, i.size, i.bytes)) = some (some (Value.agg #[.int .i64 0, .int .i64 0]), 2, 16) := by kernel_rfl
/-- A slice just laid, with no room. -/
theorem Own.laid {α : Type} (d : Rd α) (e : TypeId) (ok : Nat → Prop) (w : World) (base : Nat) (hb : base ≤ w.heap.size) : Own d e ok (w.alloc (.cells #[] e)) base (.slice (some ⟨w.heap.size, 0, none⟩) 0 0) [] :=
 ⟨[], ⟨by simp, .inr ⟨w.heap.size, 0, #[], rfl, hb, heap_alloc_new _ _, Nat.le_refl _, by simp [maxLen], by simp, by simp⟩⟩, fun i x h => by simp at h⟩
/-- Of what leads nowhere: whatever may be read. -/
theorem Own.any {e : TypeId} {ok ok' : Nat → Prop} {w : World} {base : Nat} {v : Value} {xs : List Tr} (h : Own rdTry e ok w base v xs) : Own rdTry e ok' w base v xs := by
 obtain ⟨c, h1, h2⟩ := h.ex
 exact ⟨c, h1, fun i x hi => h2 i x hi⟩

set_option maxRecDepth 100000 in
set_option maxHeartbeats 4000000 in
theorem cloneTry_any (ok : Nat → Prop) (w : World) (v : Value) (xs : List Tr) (h : SlK rdTry ok w xs v) (hl : xs.length ≤ 1000) :
  Calls Tryd.prog 165 #[v] w fun e w' => ∃ v1, e = .returned v1 ∧ Below w.heap.size w w' ∧ Own rdTry 226 (fun _ => False) w' w.heap.size v1 xs := by
 obtain ⟨A, c, hv, h1, h2, h3, hC⟩ := h
 injection hv with hv
 subst hv
 cases A with
 | none =>
  have hc : c = 0 := h3 rfl
  subst hc
  have hx : xs = [] := List.eq_nil_of_length_eq_zero (by omega)
  subst hx
  clear hC h1 h2 h3 hl
  have hq : ([] : List Tr).length = 0 := rfl
  rw [hq]
  have heq : ∀ w, (binOp .eql 223 (.slice none 0 0) (.slice none 0 0)).run Tryd.prog w = .ok (.bool true) w := fun w => run_eql_nil_nil w _ _ Tryd.underlying223
  go_enter Tryd.func165, Tryd.ntmps165
  go_wp2_with fail
  go_ret
  exact ⟨_, rfl, Below.refl _ _, Own.nil _ _ _ _ _⟩
 | some a =>
  have heq : ∀ w, (binOp .eql 223 (.slice (some a) xs.length c) (.slice none 0 0)).run Tryd.prog w = .ok (.bool false) w := fun w => run_eql_some_nil w _ _ _ _ _ Tryd.underlying223
  have hB : Below w.heap.size w (w.alloc (.cells #[] 226)) := (Below.refl _ _).alloc (Nat.le_refl _) _
  obtain ⟨v1, w2, hr, ho, hg, hat⟩ := (Own.laid rdTry 226 (fun k => ok k ∧ k < w.heap.size) w w.heap.size (Nat.le_refl _)).append (t := 223) Tryd.underlying223 infoTry rfl (by decide) (by decide) (some a) xs.length c (fun h => by cases h) ((hC.bound).move (fun k hk _ => hB.block k hk.2)) (fun k hk => ⟨hk, by simp only [Value.ownBlock]; intro he; injection he with he; omega⟩) (by simp; omega) (by simp) 223
  have hres : Below w.heap.size w w2 ∧ Own rdTry 226 (fun _ => False) w2 w.heap.size v1 xs := by
   refine ⟨hB.grown hg hB.size (fun k hk => by simp [Value.ownBlock] at hk; omega), ?_⟩
   rw [List.nil_append] at ho
   exact ho.any
  have H := Lib.hid hres
  clear hres ho hg hat hB hC h3 h1 h2 hl
  generalize xs.length = m at *
  go_enter Tryd.func165, Tryd.ntmps165
  go_wp2_with (at_builtin; refine wpList_append_eq rfl _ _ _ rfl _ _ rfl rfl hr ?_)
  go_ret
  exact ⟨_, rfl, H.out.1, H.out.2⟩
end Go.Proofs.YtefkifdhjabdiaaDoor
namespace Go.Proofs.YtefkifdhjabdiaaDoor
set_option linter.unusedVariables false
set_option linter.unusedSimpArgs false
open Go.RowKit

structure St where
 seen : List Bool
 out : List (List Tr)
 todo : List Int
 bad : Bool
def comeF (n : Nat) (st : St) (at_ : Int) (l : List Tr) : St :=
 if (n : Int) ≤ at_ ∨ 20 < l.length then { st with bad := true }
 else if st.seen[at_.toNat]? = some false then { st with seen := st.seen.set at_.toNat true, out := st.out.set at_.toNat l, todo := st.todo ++ [at_] }
 else if st.out[at_.toNat]? = some l then st
 else { st with bad := true }

theorem cell_at {w : World} {b : Nat} {cs : Array Value} {t : TypeId} {fr : Nat × Nat} (h : w.heap[b]? = some (.cells cs t fr)) (i : Nat) {v : Value} (hi : cs[i]? = some v) : w.cell? ⟨b, i, none⟩ = some v := by
 rw [World.cell?, h]; exact hi
/-- A block just laid reads as laid. -/
theorem laid_cell {w : World} (cs : Array Value) (t : TypeId) (i : Nat) (v : Value) (h : cs[i]? = some v) : (w.alloc (.cells cs t)).cell? ⟨w.heap.size, i, none⟩ = some v := by
 rw [World.cell?, heap_alloc_new]; exact h
theorem free_at {w : World} {b : Nat} {cs : Array Value} {t : TypeId} (h : w.heap[b]? = some (.cells cs t (0, 0))) (i : Nat) : w.frozen? ⟨b, i, none⟩ = false := by
 simp [World.frozen?, h]
theorem block_set {w : World} {b : Nat} {cs : Array Value} {t : TypeId} {fr : Nat × Nat} (h : w.heap[b]? = some (.cells cs t fr)) (i : Nat) (v : Value) : (w.setCell ⟨b, i, none⟩ v).heap[b]? = some (.cells (cs.setIfInBounds i v) t fr) := by
 have hlt : b < w.heap.size := (Array.getElem?_eq_some_iff.1 h).1
 have h' : w.heap[b] = .cells cs t fr := (Array.getElem?_eq_some_iff.1 h).2
 show (w.heap.modify b _)[b]? = _
 rw [Array.getElem?_eq_getElem (by simpa using hlt), Array.getElem_modify_self, h']
 rfl

/-- The fields of a walk that stay. -/
structure Wf where
 n : Nat
 wb : Nat
 sb : Nat
 ob : Nat
 params : Int
 regs : Int
 gen : Bool
 v1 : Value
 A5 : Option Addr
 c5 : Nat
abbrev Wf.cells (f : Wf) (vt : Value) (bad : Bool) : Array Value := #[.int .i64 f.params, .int .i64 f.regs, .bool f.gen, f.v1, .slice f.A5 f.n f.c5, .slice (some ⟨f.sb, 0, none⟩) f.n f.n, .slice (some ⟨f.ob, 0, none⟩) f.n f.n, vt, .bool bad]
/-- What a walk's lists of tries may lie in. -/
def Wf.ok (f : Wf) (vt : Value) (k : Nat) : Prop := k ≠ f.wb ∧ k ≠ f.sb ∧ k ≠ f.ob ∧ some k ≠ vt.ownBlock
structure WS (w : World) (base : Nat) (f : Wf) (vt : Value) (st : St) : Prop where
 hw : w.heap[f.wb]? = some (.cells (f.cells vt st.bad) 210 (0, 0))
 hs : w.heap[f.sb]? = some (.cells (st.seen.map Value.bool).toArray 4 (0, 0))
 ho : ∃ outv : List Value, w.heap[f.ob]? = some (.cells outv.toArray 223 (0, 0)) ∧ outv.length = f.n ∧ ∀ (i : Nat) (v : Value) (l : List Tr), outv[i]? = some v → st.out[i]? = some l → SlK rdTry (f.ok vt) w l v
 own : Own Rd.int 3 (fun _ => False) w base vt st.todo
 ne : f.wb ≠ f.sb ∧ f.sb ≠ f.ob ∧ f.wb ≠ f.ob ∧ base ≤ f.wb ∧ base ≤ f.sb ∧ base ≤ f.ob
 tb : vt.ownBlock ≠ some f.wb ∧ vt.ownBlock ≠ some f.sb ∧ vt.ownBlock ≠ some f.ob
 ls : st.seen.length = f.n
 lo : st.out.length = f.n
 hn : f.n ≤ 600

theorem WS.same {w w1 : World} {base : Nat} {f : Wf} {vt : Value} {st : St} (h : WS w base f vt st) (hk : ∀ k, k < w.heap.size → w1.heap[k]? = w.heap[k]?) : WS w1 base f vt st := by
 have lt : ∀ {k o}, w.heap[k]? = some o → k < w.heap.size := fun h => (Array.getElem?_eq_some_iff.1 h).1
 obtain ⟨outv, h1, h2, h3⟩ := h.ho
 exact ⟨(hk _ (lt h.hw)).trans h.hw, (hk _ (lt h.hs)).trans h.hs, ⟨outv, (hk _ (lt h1)).trans h1, h2, fun i v l hv hl => (Rd.slice rdTry).move (fun k _ hlt => hk k hlt) (h3 i v l hv hl)⟩, h.own.move (fun k _ hlt => hk k hlt), h.ne, h.tb, h.ls, h.lo, h.hn⟩
/-- What a step keeps: whatever is not the walk's own. -/
structure Kept (f : Wf) (w w1 : World) (vt vt1 : Value) : Prop where
 block : ∀ k, k < w.heap.size → f.ok vt k → w1.heap[k]? = w.heap[k]?
 own : ∀ k, k < w.heap.size → some k ≠ vt.ownBlock → some k ≠ vt1.ownBlock
 size : w.heap.size ≤ w1.heap.size
theorem Kept.refl (f : Wf) (w : World) (vt : Value) : Kept f w w vt vt := ⟨fun _ _ _ => rfl, fun _ _ h => h, Nat.le_refl _⟩
theorem Kept.trans {f : Wf} {w w1 w2 : World} {vt vt1 vt2 : Value} (h : Kept f w w1 vt vt1) (h1 : Kept f w1 w2 vt1 vt2) : Kept f w w2 vt vt2 :=
 ⟨fun k hk ho => (h1.block k (Nat.lt_of_lt_of_le hk h.size) ⟨ho.1, ho.2.1, ho.2.2.1, h.own k hk ho.2.2.2⟩).trans (h.block k hk ho), fun k hk hv => h1.own k (Nat.lt_of_lt_of_le hk h.size) (h.own k hk hv), Nat.le_trans h.size h1.size⟩
theorem Kept.same {f : Wf} {w w1 : World} {vt : Value} (hb : Below w.heap.size w w1) : Kept f w w1 vt vt := ⟨fun k hk _ => hb.block k hk, fun _ _ h => h, hb.size⟩
/-- A list of tries stays. -/
theorem Kept.list {f : Wf} {w w1 : World} {vt vt1 : Value} (h : Kept f w w1 vt vt1) {l : List Tr} {v : Value} (hl : SlK rdTry (f.ok vt) w l v) : SlK rdTry (f.ok vt1) w1 l v :=
 (Rd.slice rdTry).mono (fun k hk => ⟨hk.1.1, hk.1.2.1, hk.1.2.2.1, h.own k hk.2 hk.1.2.2.2⟩) ((Rd.slice rdTry).move (fun k hk _ => h.block k hk.2 hk.1) ((Rd.slice rdTry).bound hl))
theorem Kept.wbset (f : Wf) (w : World) (i : Nat) (u : Value) (vt : Value) : Kept f w (w.setCell ⟨f.wb, i, none⟩ u) vt vt :=
 ⟨fun k _ ho => Below.heap_setCell _ _ _ _ ho.1, fun _ _ h => h, by simp [World.setCell]⟩
/-- The mark that it is bad. -/
theorem WS.setBad {w : World} {base : Nat} {f : Wf} {vt : Value} {st : St} (h : WS w base f vt st) : WS (w.setCell ⟨f.wb, 8, none⟩ (.bool true)) base f vt { st with bad := true } := by
 obtain ⟨n1, n2, n3, b1, b2, b3⟩ := h.ne
 obtain ⟨t1, t2, t3⟩ := h.tb
 have K : ∀ k, k ≠ f.wb → (w.setCell ⟨f.wb, 8, none⟩ (.bool true)).heap[k]? = w.heap[k]? := fun k hk => Below.heap_setCell _ _ _ _ hk
 have hq : ∀ k, (False ∨ vt.ownBlock = some k) → k ≠ f.wb := by
  rintro k (hk | hk) rfl
  ·exact hk
  ·exact t1 hk
 obtain ⟨outv, h1, h2, h3⟩ := h.ho
 refine ⟨?_, (K _ (Ne.symm n1)).trans h.hs, ⟨outv, (K _ (Ne.symm n3)).trans h1, h2, fun i v l hv hl => (Rd.slice rdTry).move (fun k hk _ => K k hk.1) (h3 i v l hv hl)⟩, h.own.move (fun k hk _ => K k (hq k hk)), h.ne, h.tb, h.ls, h.lo, h.hn⟩
 rw [block_set h.hw 8]
 rfl
theorem WS.below {w : World} {base : Nat} {f : Wf} {vt : Value} {st : St} (h : WS w base f vt st) (i : Nat) (v : Value) : Below base w (w.setCell ⟨f.wb, i, none⟩ v) := by
 obtain ⟨n1, n2, n3, b1, b2, b3⟩ := h.ne
 exact (Below.refl _ _).setCell b1 v

/-- A place is seen, and its tries are laid down. -/
theorem WS.mark {w : World} {base : Nat} {f : Wf} {vt : Value} {st : St} (h : WS w base f vt st) (i : Nat) (hi : i < f.n) (v : Value) (l : List Tr) (hl : SlK rdTry (f.ok vt) w l v) :
  WS ((w.setCell ⟨f.sb, i, none⟩ (.bool true)).setCell ⟨f.ob, i, none⟩ v).drew base f vt { st with seen := st.seen.set i true, out := st.out.set i l } ∧ Below base w ((w.setCell ⟨f.sb, i, none⟩ (.bool true)).setCell ⟨f.ob, i, none⟩ v).drew ∧ Kept f w ((w.setCell ⟨f.sb, i, none⟩ (.bool true)).setCell ⟨f.ob, i, none⟩ v).drew vt vt := by
 obtain ⟨n1, n2, n3, b1, b2, b3⟩ := h.ne
 obtain ⟨t1, t2, t3⟩ := h.tb
 obtain ⟨outv, h1, h2, h3⟩ := h.ho
 have K : ∀ k, k ≠ f.sb → k ≠ f.ob → ((w.setCell ⟨f.sb, i, none⟩ (.bool true)).setCell ⟨f.ob, i, none⟩ v).drew.heap[k]? = w.heap[k]? := fun k hk hk' => by
  show ((w.setCell ⟨f.sb, i, none⟩ (.bool true)).setCell ⟨f.ob, i, none⟩ v).heap[k]? = _
  rw [Below.heap_setCell _ _ _ _ hk', Below.heap_setCell _ _ _ _ hk]
 have hq : ∀ k, (False ∨ vt.ownBlock = some k) → k ≠ f.sb ∧ k ≠ f.ob := by
  rintro k (hk | hk)
  ·exact hk.elim
  ·exact ⟨by rintro rfl; exact t2 hk, by rintro rfl; exact t3 hk⟩
 refine ⟨⟨(K _ n1 n3).trans h.hw, ?_, ⟨outv.set i v, ?_, by rw [List.length_set]; exact h2, fun j u m hu hm => ?_⟩, h.own.move (fun k hk _ => K k (hq k hk).1 (hq k hk).2), h.ne, h.tb, by rw [List.length_set]; exact h.ls, by rw [List.length_set]; exact h.lo, h.hn⟩, ((Below.refl _ _).setCell b2 _).setCell b3 _ |>.drew, ⟨fun k _ ho => K k ho.2.1 ho.2.2.1, fun _ _ h => h, by show w.heap.size ≤ ((w.setCell ⟨f.sb, i, none⟩ (.bool true)).setCell ⟨f.ob, i, none⟩ v).heap.size; simp [World.setCell]⟩⟩
 ·show ((w.setCell ⟨f.sb, i, none⟩ (.bool true)).setCell ⟨f.ob, i, none⟩ v).heap[f.sb]? = _
  rw [Below.heap_setCell _ _ _ _ n2, block_set h.hs i]
  simp [List.map_set]
 ·show ((w.setCell ⟨f.sb, i, none⟩ (.bool true)).setCell ⟨f.ob, i, none⟩ v).heap[f.ob]? = _
  rw [block_set (cs := outv.toArray) (by rw [Below.heap_setCell _ _ _ _ (Ne.symm n2)]; exact h1) i]
  simp
 ·have mv : ∀ {m : List Tr} {u : Value}, SlK rdTry (f.ok vt) w m u → SlK rdTry (f.ok vt) ((w.setCell ⟨f.sb, i, none⟩ (.bool true)).setCell ⟨f.ob, i, none⟩ v).drew m u := fun hm => (Rd.slice rdTry).move (fun k hk _ => K k hk.2.1 hk.2.2.1) hm
  simp only at hm
  by_cases hij : i = j
  ·subst hij
   rw [List.getElem?_set_self (by rw [h2]; exact hi)] at hu
   rw [List.getElem?_set_self (by rw [h.lo]; exact hi)] at hm
   injection hu with hu
   injection hm with hm
   subst hu hm
   exact mv hl
  ·rw [List.getElem?_set_ne hij] at hu hm
   exact mv (h3 j u m hu hm)
/-- A place comes behind those that are to be done. -/
theorem WS.push {w : World} {base : Nat} {f : Wf} {vt : Value} {st : St} (h : WS w base f vt st) (i : Nat) (hi : i < f.n) (hlen : st.todo.length ≤ 1000) (hbase : base ≤ w.heap.size) :
  ∃ v1 w1, (Builtin.append_ #[41, 41] 41 #[vt, .slice (some ⟨w.heap.size, 0, none⟩) 1 1]).run Tryd.prog (w.alloc (.cells #[.int .i64 i] 3)) = .ok v1 w1 ∧
   w1.heap[f.wb]? = some (.cells (f.cells vt st.bad) 210 (0, 0)) ∧ Below base w (w1.setCell ⟨f.wb, 7, none⟩ v1) ∧ Kept f w (w1.setCell ⟨f.wb, 7, none⟩ v1) vt v1 ∧ WS (w1.setCell ⟨f.wb, 7, none⟩ v1) base f v1 { st with todo := st.todo ++ [(i : Int)] } := by
 have hn := h.hn
 obtain ⟨n1, n2, n3, b1, b2, b3⟩ := h.ne
 obtain ⟨t1, t2, t3⟩ := h.tb
 obtain ⟨outv, h1, h2, h3⟩ := h.ho
 have lt : ∀ {k o}, w.heap[k]? = some o → k < w.heap.size := fun h => (Array.getElem?_eq_some_iff.1 h).1
 have lw := lt h.hw
 have ls := lt h.hs
 have lo := lt h1
 have hC := C_lit (w := w.alloc (.cells #[.int .i64 i] 3)) w.heap.size #[.int .i64 i] _ _ (heap_alloc_new _ _) 1 [(i : Int)] rfl (fun j x hx => by
  match j, hx with
  | 0, hx => simp at hx; subst hx; exact ⟨rfl, by simp only [Rd.IsInt]; omega⟩
  | j + 1, hx => simp at hx) (by omega)
 obtain ⟨v1, w1, hr, ho, hg, hat⟩ := (h.own.alloc (.cells #[.int .i64 i] 3)).mono (ok' := fun k => k = w.heap.size) (fun k hk => hk.elim) |>.append (t := 41) Tryd.underlying41 infoInt rfl (by decide) (by decide) (some ⟨w.heap.size, 0, none⟩) 1 1 (fun h => by cases h) hC (fun k hk => ⟨hk, fun he => by have := (h.own.lt k he.symm).2; omega⟩) (by omega) (by simp; omega) 41
 -- what the append leaves alone
 have K1 : ∀ k, k < w.heap.size → some k ≠ vt.ownBlock → w1.heap[k]? = w.heap[k]? := fun k hk hv => by
  rw [hg.block k (by simp; omega) hv, Below.heap_alloc _ _ _ hk]
 have K : ∀ k, k < w.heap.size → some k ≠ vt.ownBlock → k ≠ f.wb → (w1.setCell ⟨f.wb, 7, none⟩ v1).heap[k]? = w.heap[k]? := fun k hk hv hw => by
  rw [Below.heap_setCell _ _ _ _ hw, K1 k hk hv]
 have hw1 : w1.heap[f.wb]? = some (.cells (f.cells vt st.bad) 210 (0, 0)) := (K1 _ lw (Ne.symm t1)).trans h.hw
 have hne : ∀ k, k < w.heap.size → some k ≠ vt.ownBlock → some k ≠ v1.ownBlock := fun k hk hv => by
  rcases hat with hat | hat
  ·rw [hat]; exact hv
  ·rw [hat]; intro he; injection he with he; simp at he; omega
 have B0 : Below base w (w.alloc (.cells #[.int .i64 i] 3)) := (Below.refl _ _).alloc hbase _
 have B1 : Below base w w1 := B0.grown hg (by simp; omega) (fun k hk => (h.own.lt k hk).1)
 have S1 : w.heap.size ≤ w1.heap.size := by have := hg.size; simp at this; omega
 refine ⟨v1, w1, hr, hw1, B1.setCell b1 _, ⟨fun k hk ho => K k hk ho.2.2.2 ho.1, hne, by simpa [World.setCell] using S1⟩, ⟨?_, (K _ ls (Ne.symm t2) (Ne.symm n1)).trans h.hs, ⟨outv, (K _ lo (Ne.symm t3) (Ne.symm n3)).trans h1, h2, fun j u m hu hm => ?_⟩, ?_, h.ne, ⟨fun he => hne _ lw (Ne.symm t1) he.symm, fun he => hne _ ls (Ne.symm t2) he.symm, fun he => hne _ lo (Ne.symm t3) he.symm⟩, h.ls, h.lo, h.hn⟩⟩
 ·rw [block_set hw1 7]
  rfl
 ·have := (Rd.slice rdTry).bound (h3 j u m hu hm)
  exact (Rd.slice rdTry).mono (fun k hk => ⟨hk.1.1, hk.1.2.1, hk.1.2.2.1, hne k hk.2 hk.1.2.2.2⟩) ((Rd.slice rdTry).move (fun k hk _ => K k hk.2 hk.1.2.2.2 hk.1.1) this)
 ·obtain ⟨cells, o1, o2⟩ := ho.ex
  have ho' : Own Rd.int 3 (fun _ => False) w1 base v1 (st.todo ++ [(i : Int)]) := ⟨cells, o1, fun j x hj => o2 j x hj⟩
  refine ho'.move (fun k hk hlt => ?_)
  rcases hk with hk | hk
  ·exact hk.elim
  ·refine Below.heap_setCell _ _ _ _ ?_
   rintro rfl
   exact hne _ lw (Ne.symm t1) hk.symm
end Go.Proofs.YtefkifdhjabdiaaDoor
namespace Go.Proofs.YtefkifdhjabdiaaDoor
set_option linter.unusedVariables false
set_option linter.unusedSimpArgs false
open Go.RowKit

set_option maxRecDepth 100000 in
set_option maxHeartbeats 8000000 in
theorem come_bad (w : World) (base : Nat) (f : Wf) (vt : Value) (st : St) (h : WS w base f vt st) (at_ : Int) (A : Option Addr) (m c : Nat) (hb : (f.n : Int) ≤ at_ ∨ 20 < m) :
  Calls Tryd.prog 149 #[.pointer (some ⟨f.wb, 0, none⟩), .int .i64 at_, .slice A m c] w fun e w' => e = .returned (.tuple #[]) ∧ Below base w w' ∧ ∃ vt', Kept f w w' vt vt' ∧ WS w' base f vt' { st with bad := true } := by
 have e4 : w.cell? ⟨f.wb, 4, none⟩ = some (.slice f.A5 f.n f.c5) := cell_at h.hw 4 rfl
 have e8 : w.cell? ⟨f.wb, 8, none⟩ = some (.bool st.bad) := cell_at h.hw 8 rfl
 have fr : w.frozen? ⟨f.wb, 8, none⟩ = false := free_at h.hw 8
 have R := Lib.hid (And.intro (h.below 8 (.bool true)) h.setBad)
 clear h
 by_cases hn : (f.n : Int) ≤ at_
 ·go_enter Tryd.func149, Tryd.ntmps149
  go_wp2_with fail
  go_end0
  exact ⟨rfl, R.out.1, vt, Kept.wbset f w 8 _ vt, R.out.2⟩
 ·have hm : 20 < m := by omega
  go_enter Tryd.func149, Tryd.ntmps149
  go_wp2_with fail
  go_end0
  exact ⟨rfl, R.out.1, vt, Kept.wbset f w 8 _ vt, R.out.2⟩

set_option maxRecDepth 100000 in
set_option maxHeartbeats 8000000 in
theorem come_new (w : World) (base : Nat) (hbase : base ≤ w.heap.size) (f : Wf) (vt : Value) (st : St) (h : WS w base f vt st) (at_ : Nat) (v : Value) (l : List Tr) (hl : SlK rdTry (f.ok vt) w l v) (hi : at_ < f.n) (h20 : l.length ≤ 20) (hs : st.seen[at_]? = some false) (hlen : st.todo.length ≤ 1000) :
  Calls Tryd.prog 149 #[.pointer (some ⟨f.wb, 0, none⟩), .int .i64 at_, v] w fun e w' => e = .returned (.tuple #[]) ∧ Below base w w' ∧ ∃ vt', Kept f w w' vt vt' ∧ WS w' base f vt' { st with seen := st.seen.set at_ true, out := st.out.set at_ l, todo := st.todo ++ [(at_ : Int)] } := by
 obtain ⟨M, MB, MK⟩ := h.mark at_ hi v l hl
 obtain ⟨v1, w1, hr, hw1, PB, PK, P⟩ := M.push at_ hi hlen (Nat.le_trans hbase MB.size)
 obtain ⟨A1, q0, q1, hv1⟩ : ∃ A1 q0 q1, v1 = .slice A1 q0 q1 := by
  obtain ⟨A1, q1, hv1, _⟩ := P.own.reads (by decide)
  injection hv1 with hv1
  exact ⟨_, _, _, hv1⟩
 subst hv1
 have HP := Lib.hid (And.intro (MB.trans PB) (And.intro (MK.trans PK) P))
 have e7' : (((w.setCell ⟨f.sb, at_, none⟩ (.bool true)).setCell ⟨f.ob, at_, none⟩ v).drew).cell? ⟨f.wb, 7, none⟩ = some vt := cell_at M.hw 7 rfl
 have lw : f.wb < (((w.setCell ⟨f.sb, at_, none⟩ (.bool true)).setCell ⟨f.ob, at_, none⟩ v).drew).heap.size := (Array.getElem?_eq_some_iff.1 M.hw).1
 have x7 : w1.cell? ⟨f.wb, 7, none⟩ = some vt := cell_at hw1 7 rfl
 have xf : w1.frozen? ⟨f.wb, 7, none⟩ = false := free_at hw1 7
 clear hw1 M MB PB P MK PK
 obtain ⟨W1, hW1⟩ : ∃ W1, W1 = ((w.setCell ⟨f.sb, at_, none⟩ (.bool true)).setCell ⟨f.ob, at_, none⟩ v).drew := ⟨_, rfl⟩
 rw [← hW1] at hr e7' lw
 obtain ⟨A, c, hv, l1, l2, l3, hC⟩ := hl
 injection hv with hv
 subst hv
 have e4 : w.cell? ⟨f.wb, 4, none⟩ = some (.slice f.A5 f.n f.c5) := cell_at h.hw 4 rfl
 have e5 : w.cell? ⟨f.wb, 5, none⟩ = some (.slice (some ⟨f.sb, 0, none⟩) f.n f.n) := cell_at h.hw 5 rfl
 have e6 : w.cell? ⟨f.wb, 6, none⟩ = some (.slice (some ⟨f.ob, 0, none⟩) f.n f.n) := cell_at h.hw 6 rfl
 have frs := free_at h.hs at_
 have es : w.cell? ⟨f.sb, at_, none⟩ = some (.bool false) := cell_at h.hs at_ (by simp [hs])
 obtain ⟨outv, o1, o2, o3⟩ := h.ho
 have fro := free_at o1 at_
 obtain ⟨u0, hu0⟩ : ∃ u0, outv[at_]? = some u0 := ⟨_, List.getElem?_eq_getElem (by omega)⟩
 have eo : w.cell? ⟨f.ob, at_, none⟩ = some u0 := cell_at o1 at_ (by simpa using hu0)
 have es' : ∀ u, (w.setCell ⟨f.ob, at_, none⟩ u).cell? ⟨f.sb, at_, none⟩ = some (.bool false) := fun u => by rw [World.cell?_setCell_other _ _ _ _ (by intro hq; injection hq with hq; exact h.ne.2.1 (by first | exact hq | exact hq.symm))]; exact es
 have eo' : ∀ u, (w.setCell ⟨f.sb, at_, none⟩ u).cell? ⟨f.ob, at_, none⟩ = some u0 := fun u => by rw [World.cell?_setCell_other _ _ _ _ (by intro hq; injection hq with hq; exact h.ne.2.1 (by first | exact hq | exact hq.symm))]; exact eo
 have hn := h.hn
 have hb1 : (at_ : Int) < (f.n : Int) := by omega
 clear h o1 o2 o3 hu0 hC hs l3
 go_enter Tryd.func149, Tryd.ntmps149
 go_wp2_with fail
 go_region
 rw [← hW1]
 clear hW1 es' eo' es eo frs fro e4 e5 e6
 go_wp2_with (at_builtin; refine wpList_append_eq rfl _ _ _ rfl _ _ rfl rfl hr ?_)
 go_end0
 exact ⟨rfl, HP.out.1, _, HP.out.2.1, HP.out.2.2⟩

set_option maxRecDepth 100000 in
set_option maxHeartbeats 8000000 in
theorem come_old (w : World) (base : Nat) (hbase : base ≤ w.heap.size) (f : Wf) (vt : Value) (st : St) (h : WS w base f vt st) (at_ : Nat) (v : Value) (l : List Tr) (hl : SlK rdTry (f.ok vt) w l v) (hi : at_ < f.n) (h20 : l.length ≤ 20) (hs : st.seen[at_]? = some true) :
  Calls Tryd.prog 149 #[.pointer (some ⟨f.wb, 0, none⟩), .int .i64 at_, v] w fun e w' => e = .returned (.tuple #[]) ∧ Below base w w' ∧ ∃ vt', Kept f w w' vt vt' ∧ WS w' base f vt' (if st.out[at_]? = some l then st else { st with bad := true }) := by
 obtain ⟨outv, o1, o2, o3⟩ := h.ho
 obtain ⟨m, hm⟩ : ∃ m, st.out[at_]? = some m := ⟨_, List.getElem?_eq_getElem (by rw [h.lo]; exact hi)⟩
 obtain ⟨u0, hu0⟩ : ∃ u0, outv[at_]? = some u0 := ⟨_, List.getElem?_eq_getElem (by omega)⟩
 obtain ⟨A', c', hv', _, _, _, hC'⟩ := o3 at_ u0 m hu0 hm
 injection hv' with hv'
 subst hv'
 obtain ⟨A, c, hv, l1, l2, l3, hC⟩ := hl
 injection hv with hv
 subst hv
 have E := Lib.hid (fun w2 => eqTry_any w2 A' A m.length l.length c' c m l)
 have HE : Hid (Calls Tryd.prog 164 #[.slice A' m.length c', .slice A l.length c] w fun e w' => e = .returned (.bool (decide (m = l))) ∧ Below w.heap.size w w') := Lib.hid (E.out w _ _ hC' hC)
 have e4 : w.cell? ⟨f.wb, 4, none⟩ = some (.slice f.A5 f.n f.c5) := cell_at h.hw 4 rfl
 have e5 : w.cell? ⟨f.wb, 5, none⟩ = some (.slice (some ⟨f.sb, 0, none⟩) f.n f.n) := cell_at h.hw 5 rfl
 have e6 : w.cell? ⟨f.wb, 6, none⟩ = some (.slice (some ⟨f.ob, 0, none⟩) f.n f.n) := cell_at h.hw 6 rfl
 have es : w.cell? ⟨f.sb, at_, none⟩ = some (.bool true) := cell_at h.hs at_ (by simp [hs])
 have eo : w.cell? ⟨f.ob, at_, none⟩ = some (.slice A' m.length c') := cell_at o1 at_ (by simpa using hu0)
 have hn := h.hn
 have hb1 : (at_ : Int) < (f.n : Int) := by omega
 have hlb : f.wb < w.heap.size := (Array.getElem?_eq_some_iff.1 h.hw).1
 have H := Lib.hid h
 have HM := Lib.hid hm
 clear h o1 o2 o3 hu0 hC hs l3 hC' E hm
 by_cases hml : m = l
 ·have hd : decide (m = l) = true := by simpa using hml
  rw [hd] at HE
  have R := Lib.hid (show (if st.out[at_]? = some l then st else { st with bad := true }) = st by rw [HM.out, hml]; simp)
  rw [R.out]
  clear hd hml R
  go_enter Tryd.func149, Tryd.ntmps149
  go_wp2_with fail
  refine (HE.out).mono ?_
  rintro e w1 ⟨rfl, hb⟩
  have HB := Lib.hid hb
  clear hb
  go_wp2_with fail
  go_end0
  exact ⟨rfl, HB.out.mono hbase, vt, Kept.same HB.out, H.out.same (fun k hk => HB.out.block k hk)⟩
 ·have hd : decide (m = l) = false := by simpa using hml
  rw [hd] at HE
  have R := Lib.hid (show (if st.out[at_]? = some l then st else { st with bad := true }) = { st with bad := true } by rw [HM.out]; simp [hml])
  rw [R.out]
  clear hd hml R
  go_enter Tryd.func149, Tryd.ntmps149
  go_wp2_with fail
  refine (HE.out).mono ?_
  rintro e w1 ⟨rfl, hb⟩
  have H1 := H.out.same (fun k hk => hb.block k hk)
  have e8 : w1.cell? ⟨f.wb, 8, none⟩ = some (.bool st.bad) := cell_at H1.hw 8 rfl
  have fr : w1.frozen? ⟨f.wb, 8, none⟩ = false := free_at H1.hw 8
  have HB := Lib.hid (And.intro ((hb.mono hbase).trans (H1.below 8 (.bool true))) (And.intro ((Kept.same (f := f) (vt := vt) hb).trans (Kept.wbset f w1 8 (.bool true) vt)) H1.setBad))
  clear hb H1
  go_wp2_with fail
  go_end0
  exact ⟨rfl, HB.out.1, vt, HB.out.2.1, HB.out.2.2⟩

/-- 'come', whole. -/
theorem come_any (w : World) (base : Nat) (hbase : base ≤ w.heap.size) (f : Wf) (vt : Value) (st : St) (h : WS w base f vt st) (at_ : Int) (h0 : 0 ≤ at_) (v : Value) (l : List Tr) (hl : SlK rdTry (f.ok vt) w l v) (hlen : st.todo.length ≤ 1000) :
  Calls Tryd.prog 149 #[.pointer (some ⟨f.wb, 0, none⟩), .int .i64 at_, v] w fun e w' => e = .returned (.tuple #[]) ∧ Below base w w' ∧ ∃ vt', Kept f w w' vt vt' ∧ WS w' base f vt' (comeF f.n st at_ l) := by
 unfold comeF
 by_cases hb : (f.n : Int) ≤ at_ ∨ 20 < l.length
 ·rw [if_pos hb]
  obtain ⟨A, c, hv, _⟩ := hl
  injection hv with hv
  subst hv
  exact come_bad w base f vt st h at_ A _ c hb
 ·rw [if_neg hb]
  obtain ⟨i, rfl⟩ := Int.eq_ofNat_of_zero_le h0
  have hi : i < f.n := by omega
  obtain ⟨s, hs⟩ : ∃ s, st.seen[i]? = some s := ⟨_, List.getElem?_eq_getElem (by rw [h.ls]; exact hi)⟩
  rw [Int.toNat_natCast]
  cases s with
  | false =>
   rw [if_pos hs]
   exact come_new w base hbase f vt st h i v l hl hi (by omega) hs hlen
  | true =>
   rw [if_neg (by rw [hs]; simp)]
   exact come_old w base hbase f vt st h i v l hl hi (by omega) hs
end Go.Proofs.YtefkifdhjabdiaaDoor
namespace Go.Proofs.YtefkifdhjabdiaaDoor
set_option linter.unusedVariables false
set_option linter.unusedSimpArgs false
open Go.RowKit

def fromF (n : Nat) (code : List Ord) (st : St) (at_ : Nat) : St :=
 match code[at_]?, st.out[at_]? with
 | some i, some l =>
  if i.op = 28 ∨ i.op = 29 then st
  else if i.op = 13 ∨ i.op = 14 then comeF n st i.a l
  else if i.op = 15 then comeF n (comeF n st i.b l) ((at_ : Int) + 1) l
  else if i.op = 30 then comeF n (comeF n st i.b l) ((at_ : Int) + 1) (l ++ [⟨i.a, i.b⟩])
  else if i.op = 31 then (if l = [] then { st with bad := true } else comeF n st ((at_ : Int) + 1) l.dropLast)
  else comeF n st ((at_ : Int) + 1) l
 | _, _ => st
theorem comeF_todo (n : Nat) (st : St) (at_ : Int) (l : List Tr) : (comeF n st at_ l).todo.length ≤ st.todo.length + 1 := by
 unfold comeF
 split
 ·simp
 ·split
  ·simp
  ·split <;> simp


set_option maxRecDepth 100000 in
set_option maxHeartbeats 8000000 in
theorem from_28 (w : World) (base : Nat) (hbase : base ≤ w.heap.size) (f : Wf) (vt : Value) (st : St) (h : WS w base f vt st) (hlen : st.todo.length ≤ 900) (at_ : Nat) (hi : at_ < f.n) (code : List Ord) (hcode : rdOrd.CB base w f.A5 f.n code) (i : Ord) (hci : code[at_]? = some i) (l : List Tr) (hm : st.out[at_]? = some l) (h20 : l.length ≤ 20) (hop : i.op = 28) :
  Calls Tryd.prog 150 #[.pointer (some ⟨f.wb, 0, none⟩), .int .i64 at_] w fun e w' => e = .returned (.tuple #[]) ∧ Below base w w' ∧ ∃ vt', Kept f w w' vt vt' ∧ WS w' base f vt' st := by
 obtain ⟨outv, o1, o2, o3⟩ := h.ho
 obtain ⟨u0, hu0⟩ : ∃ u0, outv[at_]? = some u0 := ⟨_, List.getElem?_eq_getElem (by omega)⟩
 have hsl := o3 at_ u0 l hu0 hm
 obtain ⟨A', c', hv', s1, s2, s3, hC'⟩ := hsl
 injection hv' with hv'
 subst hv'
 obtain ⟨ad, cs, hA5, hadb, hads, ⟨rfl, hii⟩, hc0, hcj⟩ := hcode.elem at_ i hci
 obtain ⟨op, a, b, c, line⟩ := i
 simp only [Ord.cells] at hop hc0 hcj ⊢
 have n28 : (op == 28) = true := by rw [hop]; rfl
 clear hop
 have x0 : w.cell? (ad.add (at_ * 5)) = some (.int .i64 op) := hc0 _ rfl
 have x1 : w.cell? ⟨(ad.add (at_ * 5)).block, (ad.add (at_ * 5)).off + 1, none⟩ = some (.int .i64 a) := hcj 0 _ rfl
 have x2 : w.cell? ⟨(ad.add (at_ * 5)).block, (ad.add (at_ * 5)).off + 2, none⟩ = some (.int .i64 b) := hcj 1 _ rfl
 have x3 : w.cell? ⟨(ad.add (at_ * 5)).block, (ad.add (at_ * 5)).off + 3, none⟩ = some (.int .i64 c) := hcj 2 _ rfl
 have x4 : w.cell? ⟨(ad.add (at_ * 5)).block, (ad.add (at_ * 5)).off + 4, none⟩ = some (.int .i64 line) := hcj 3 _ rfl
 have xb : (ad.add (at_ * 5)).block < w.heap.size := by rw [Rd.block_add]; exact hads
 have e4 : w.cell? ⟨f.wb, 4, none⟩ = some (.slice (some ad) f.n f.c5) := by rw [cell_at h.hw 4 rfl]; simp [hA5]
 have e6 : w.cell? ⟨f.wb, 6, none⟩ = some (.slice (some ⟨f.ob, 0, none⟩) f.n f.n) := cell_at h.hw 6 rfl
 have eo : w.cell? ⟨f.ob, at_, none⟩ = some (.slice A' l.length c') := cell_at o1 at_ (by simpa using hu0)
 have lw : f.wb < w.heap.size := (Array.getElem?_eq_some_iff.1 h.hw).1
 have lo : f.ob < w.heap.size := (Array.getElem?_eq_some_iff.1 o1).1
 have ls : f.sb < w.heap.size := (Array.getElem?_eq_some_iff.1 h.hs).1
 have hn := h.hn
 have hb1 : (at_ : Int) < (f.n : Int) := by omega
 obtain ⟨W1, hW1⟩ : ∃ W1, W1 = (w.alloc (.cells #[.int .i64 op, .int .i64 a, .int .i64 b, .int .i64 c, .int .i64 line] 189)).drew := ⟨_, rfl⟩
 have sz1 : W1.heap.size = w.heap.size + 1 := by rw [hW1]; simp
 have same : Below w.heap.size w W1 := by rw [hW1]; exact ((Below.refl _ _).alloc (Nat.le_refl _) _).drew
 have hWS := h.same (fun k hk => same.block k hk)
 have hok : f.ok vt w.heap.size := ⟨by omega, by omega, by omega, fun he => by have := (h.own.lt _ he.symm).2; omega⟩
 have hK0 : Kept f w W1 vt vt := Kept.same same
 have hL : SlK rdTry (f.ok vt) W1 l (.slice A' l.length c') := hK0.list ⟨A', c', rfl, s1, s2, s3, hC'⟩
 have y0 : W1.cell? ⟨w.heap.size, 0, none⟩ = some (.int .i64 op) := by rw [hW1]; show (w.alloc _).cell? _ = _; exact laid_cell _ _ _ _ rfl
 have y1 : W1.cell? ⟨w.heap.size, 1, none⟩ = some (.int .i64 a) := by rw [hW1]; show (w.alloc _).cell? _ = _; exact laid_cell _ _ _ _ rfl
 have y2 : W1.cell? ⟨w.heap.size, 2, none⟩ = some (.int .i64 b) := by rw [hW1]; show (w.alloc _).cell? _ = _; exact laid_cell _ _ _ _ rfl
 have HCM := Lib.hid (fun (x : Int) (hx : 0 ≤ x) => come_any W1 base (by omega) f vt st hWS x hx _ l hL (by omega))
 have H0 := Lib.hid (And.intro (same.mono hbase) (And.intro hK0 hWS))
 have HL := Lib.hid hL
 have HO := Lib.hid hok
 clear h o1 o2 o3 hu0 hC' hc0 hcj hcode same hWS hK0 hL hok hads hadb hA5 hii
 go_enter Tryd.func150, Tryd.ntmps150
 go_wp2_with fail
 go_region
 rw [← hW1]
 clear hW1 x0 x1 x2 x3 x4 xb e4 e6 eo lo ls
 go_wp2_with fail
 refine bodyPost_ret (results_none rfl _ _ _) rfl ?_
 exact ⟨rfl, H0.out.1, vt, H0.out.2.1, H0.out.2.2⟩


set_option maxRecDepth 100000 in
set_option maxHeartbeats 8000000 in
theorem from_29 (w : World) (base : Nat) (hbase : base ≤ w.heap.size) (f : Wf) (vt : Value) (st : St) (h : WS w base f vt st) (hlen : st.todo.length ≤ 900) (at_ : Nat) (hi : at_ < f.n) (code : List Ord) (hcode : rdOrd.CB base w f.A5 f.n code) (i : Ord) (hci : code[at_]? = some i) (l : List Tr) (hm : st.out[at_]? = some l) (h20 : l.length ≤ 20) (hop : i.op = 29) :
  Calls Tryd.prog 150 #[.pointer (some ⟨f.wb, 0, none⟩), .int .i64 at_] w fun e w' => e = .returned (.tuple #[]) ∧ Below base w w' ∧ ∃ vt', Kept f w w' vt vt' ∧ WS w' base f vt' st := by
 obtain ⟨outv, o1, o2, o3⟩ := h.ho
 obtain ⟨u0, hu0⟩ : ∃ u0, outv[at_]? = some u0 := ⟨_, List.getElem?_eq_getElem (by omega)⟩
 have hsl := o3 at_ u0 l hu0 hm
 obtain ⟨A', c', hv', s1, s2, s3, hC'⟩ := hsl
 injection hv' with hv'
 subst hv'
 obtain ⟨ad, cs, hA5, hadb, hads, ⟨rfl, hii⟩, hc0, hcj⟩ := hcode.elem at_ i hci
 obtain ⟨op, a, b, c, line⟩ := i
 simp only [Ord.cells] at hop hc0 hcj ⊢
 have n28 : (op == 28) = false := by rw [hop]; rfl
 have n29 : (op == 29) = true := by rw [hop]; rfl
 clear hop
 have x0 : w.cell? (ad.add (at_ * 5)) = some (.int .i64 op) := hc0 _ rfl
 have x1 : w.cell? ⟨(ad.add (at_ * 5)).block, (ad.add (at_ * 5)).off + 1, none⟩ = some (.int .i64 a) := hcj 0 _ rfl
 have x2 : w.cell? ⟨(ad.add (at_ * 5)).block, (ad.add (at_ * 5)).off + 2, none⟩ = some (.int .i64 b) := hcj 1 _ rfl
 have x3 : w.cell? ⟨(ad.add (at_ * 5)).block, (ad.add (at_ * 5)).off + 3, none⟩ = some (.int .i64 c) := hcj 2 _ rfl
 have x4 : w.cell? ⟨(ad.add (at_ * 5)).block, (ad.add (at_ * 5)).off + 4, none⟩ = some (.int .i64 line) := hcj 3 _ rfl
 have xb : (ad.add (at_ * 5)).block < w.heap.size := by rw [Rd.block_add]; exact hads
 have e4 : w.cell? ⟨f.wb, 4, none⟩ = some (.slice (some ad) f.n f.c5) := by rw [cell_at h.hw 4 rfl]; simp [hA5]
 have e6 : w.cell? ⟨f.wb, 6, none⟩ = some (.slice (some ⟨f.ob, 0, none⟩) f.n f.n) := cell_at h.hw 6 rfl
 have eo : w.cell? ⟨f.ob, at_, none⟩ = some (.slice A' l.length c') := cell_at o1 at_ (by simpa using hu0)
 have lw : f.wb < w.heap.size := (Array.getElem?_eq_some_iff.1 h.hw).1
 have lo : f.ob < w.heap.size := (Array.getElem?_eq_some_iff.1 o1).1
 have ls : f.sb < w.heap.size := (Array.getElem?_eq_some_iff.1 h.hs).1
 have hn := h.hn
 have hb1 : (at_ : Int) < (f.n : Int) := by omega
 obtain ⟨W1, hW1⟩ : ∃ W1, W1 = (w.alloc (.cells #[.int .i64 op, .int .i64 a, .int .i64 b, .int .i64 c, .int .i64 line] 189)).drew := ⟨_, rfl⟩
 have sz1 : W1.heap.size = w.heap.size + 1 := by rw [hW1]; simp
 have same : Below w.heap.size w W1 := by rw [hW1]; exact ((Below.refl _ _).alloc (Nat.le_refl _) _).drew
 have hWS := h.same (fun k hk => same.block k hk)
 have hok : f.ok vt w.heap.size := ⟨by omega, by omega, by omega, fun he => by have := (h.own.lt _ he.symm).2; omega⟩
 have hK0 : Kept f w W1 vt vt := Kept.same same
 have hL : SlK rdTry (f.ok vt) W1 l (.slice A' l.length c') := hK0.list ⟨A', c', rfl, s1, s2, s3, hC'⟩
 have y0 : W1.cell? ⟨w.heap.size, 0, none⟩ = some (.int .i64 op) := by rw [hW1]; show (w.alloc _).cell? _ = _; exact laid_cell _ _ _ _ rfl
 have y1 : W1.cell? ⟨w.heap.size, 1, none⟩ = some (.int .i64 a) := by rw [hW1]; show (w.alloc _).cell? _ = _; exact laid_cell _ _ _ _ rfl
 have y2 : W1.cell? ⟨w.heap.size, 2, none⟩ = some (.int .i64 b) := by rw [hW1]; show (w.alloc _).cell? _ = _; exact laid_cell _ _ _ _ rfl
 have HCM := Lib.hid (fun (x : Int) (hx : 0 ≤ x) => come_any W1 base (by omega) f vt st hWS x hx _ l hL (by omega))
 have H0 := Lib.hid (And.intro (same.mono hbase) (And.intro hK0 hWS))
 have HL := Lib.hid hL
 have HO := Lib.hid hok
 clear h o1 o2 o3 hu0 hC' hc0 hcj hcode same hWS hK0 hL hok hads hadb hA5 hii
 go_enter Tryd.func150, Tryd.ntmps150
 go_wp2_with fail
 go_region
 rw [← hW1]
 clear hW1 x0 x1 x2 x3 x4 xb e4 e6 eo lo ls
 go_wp2_with fail
 refine bodyPost_ret (results_none rfl _ _ _) rfl ?_
 exact ⟨rfl, H0.out.1, vt, H0.out.2.1, H0.out.2.2⟩


set_option maxRecDepth 100000 in
set_option maxHeartbeats 8000000 in
theorem from_13 (w : World) (base : Nat) (hbase : base ≤ w.heap.size) (f : Wf) (vt : Value) (st : St) (h : WS w base f vt st) (hlen : st.todo.length ≤ 900) (at_ : Nat) (hi : at_ < f.n) (code : List Ord) (hcode : rdOrd.CB base w f.A5 f.n code) (i : Ord) (hci : code[at_]? = some i) (l : List Tr) (hm : st.out[at_]? = some l) (h20 : l.length ≤ 20) (hop : i.op = 13) (hjmp : 0 ≤ i.a) :
  Calls Tryd.prog 150 #[.pointer (some ⟨f.wb, 0, none⟩), .int .i64 at_] w fun e w' => e = .returned (.tuple #[]) ∧ Below base w w' ∧ ∃ vt', Kept f w w' vt vt' ∧ WS w' base f vt' (comeF f.n st i.a l) := by
 obtain ⟨outv, o1, o2, o3⟩ := h.ho
 obtain ⟨u0, hu0⟩ : ∃ u0, outv[at_]? = some u0 := ⟨_, List.getElem?_eq_getElem (by omega)⟩
 have hsl := o3 at_ u0 l hu0 hm
 obtain ⟨A', c', hv', s1, s2, s3, hC'⟩ := hsl
 injection hv' with hv'
 subst hv'
 obtain ⟨ad, cs, hA5, hadb, hads, ⟨rfl, hii⟩, hc0, hcj⟩ := hcode.elem at_ i hci
 obtain ⟨op, a, b, c, line⟩ := i
 simp only [Ord.cells] at hop hjmp hc0 hcj ⊢
 have n28 : (op == 28) = false := by rw [hop]; rfl
 have n29 : (op == 29) = false := by rw [hop]; rfl
 have n13 : (op == 13) = true := by rw [hop]; rfl
 clear hop
 have x0 : w.cell? (ad.add (at_ * 5)) = some (.int .i64 op) := hc0 _ rfl
 have x1 : w.cell? ⟨(ad.add (at_ * 5)).block, (ad.add (at_ * 5)).off + 1, none⟩ = some (.int .i64 a) := hcj 0 _ rfl
 have x2 : w.cell? ⟨(ad.add (at_ * 5)).block, (ad.add (at_ * 5)).off + 2, none⟩ = some (.int .i64 b) := hcj 1 _ rfl
 have x3 : w.cell? ⟨(ad.add (at_ * 5)).block, (ad.add (at_ * 5)).off + 3, none⟩ = some (.int .i64 c) := hcj 2 _ rfl
 have x4 : w.cell? ⟨(ad.add (at_ * 5)).block, (ad.add (at_ * 5)).off + 4, none⟩ = some (.int .i64 line) := hcj 3 _ rfl
 have xb : (ad.add (at_ * 5)).block < w.heap.size := by rw [Rd.block_add]; exact hads
 have e4 : w.cell? ⟨f.wb, 4, none⟩ = some (.slice (some ad) f.n f.c5) := by rw [cell_at h.hw 4 rfl]; simp [hA5]
 have e6 : w.cell? ⟨f.wb, 6, none⟩ = some (.slice (some ⟨f.ob, 0, none⟩) f.n f.n) := cell_at h.hw 6 rfl
 have eo : w.cell? ⟨f.ob, at_, none⟩ = some (.slice A' l.length c') := cell_at o1 at_ (by simpa using hu0)
 have lw : f.wb < w.heap.size := (Array.getElem?_eq_some_iff.1 h.hw).1
 have lo : f.ob < w.heap.size := (Array.getElem?_eq_some_iff.1 o1).1
 have ls : f.sb < w.heap.size := (Array.getElem?_eq_some_iff.1 h.hs).1
 have hn := h.hn
 have hb1 : (at_ : Int) < (f.n : Int) := by omega
 obtain ⟨W1, hW1⟩ : ∃ W1, W1 = (w.alloc (.cells #[.int .i64 op, .int .i64 a, .int .i64 b, .int .i64 c, .int .i64 line] 189)).drew := ⟨_, rfl⟩
 have sz1 : W1.heap.size = w.heap.size + 1 := by rw [hW1]; simp
 have same : Below w.heap.size w W1 := by rw [hW1]; exact ((Below.refl _ _).alloc (Nat.le_refl _) _).drew
 have hWS := h.same (fun k hk => same.block k hk)
 have hok : f.ok vt w.heap.size := ⟨by omega, by omega, by omega, fun he => by have := (h.own.lt _ he.symm).2; omega⟩
 have hK0 : Kept f w W1 vt vt := Kept.same same
 have hL : SlK rdTry (f.ok vt) W1 l (.slice A' l.length c') := hK0.list ⟨A', c', rfl, s1, s2, s3, hC'⟩
 have y0 : W1.cell? ⟨w.heap.size, 0, none⟩ = some (.int .i64 op) := by rw [hW1]; show (w.alloc _).cell? _ = _; exact laid_cell _ _ _ _ rfl
 have y1 : W1.cell? ⟨w.heap.size, 1, none⟩ = some (.int .i64 a) := by rw [hW1]; show (w.alloc _).cell? _ = _; exact laid_cell _ _ _ _ rfl
 have y2 : W1.cell? ⟨w.heap.size, 2, none⟩ = some (.int .i64 b) := by rw [hW1]; show (w.alloc _).cell? _ = _; exact laid_cell _ _ _ _ rfl
 have HCM := Lib.hid (fun (x : Int) (hx : 0 ≤ x) => come_any W1 base (by omega) f vt st hWS x hx _ l hL (by omega))
 have H0 := Lib.hid (And.intro (same.mono hbase) (And.intro hK0 hWS))
 have HL := Lib.hid hL
 have HO := Lib.hid hok
 clear h o1 o2 o3 hu0 hC' hc0 hcj hcode same hWS hK0 hL hok hads hadb hA5 hii
 go_enter Tryd.func150, Tryd.ntmps150
 go_wp2_with fail
 go_region
 rw [← hW1]
 clear hW1 x0 x1 x2 x3 x4 xb e4 e6 eo lo ls
 go_wp2_with fail
 refine (HCM.out a hjmp).mono ?_
 rintro e w2 ⟨rfl, hb, vt2, hk, hws⟩
 have R := Lib.hid (And.intro (H0.out.1.trans hb) (And.intro (H0.out.2.1.trans hk) hws))
 clear hb hk hws
 go_wp2_with fail
 refine bodyPost_ret (results_none rfl _ _ _) rfl ?_
 exact ⟨rfl, R.out.1, vt2, R.out.2.1, R.out.2.2⟩


set_option maxRecDepth 100000 in
set_option maxHeartbeats 8000000 in
theorem from_14 (w : World) (base : Nat) (hbase : base ≤ w.heap.size) (f : Wf) (vt : Value) (st : St) (h : WS w base f vt st) (hlen : st.todo.length ≤ 900) (at_ : Nat) (hi : at_ < f.n) (code : List Ord) (hcode : rdOrd.CB base w f.A5 f.n code) (i : Ord) (hci : code[at_]? = some i) (l : List Tr) (hm : st.out[at_]? = some l) (h20 : l.length ≤ 20) (hop : i.op = 14) (hjmp : 0 ≤ i.a) :
  Calls Tryd.prog 150 #[.pointer (some ⟨f.wb, 0, none⟩), .int .i64 at_] w fun e w' => e = .returned (.tuple #[]) ∧ Below base w w' ∧ ∃ vt', Kept f w w' vt vt' ∧ WS w' base f vt' (comeF f.n st i.a l) := by
 obtain ⟨outv, o1, o2, o3⟩ := h.ho
 obtain ⟨u0, hu0⟩ : ∃ u0, outv[at_]? = some u0 := ⟨_, List.getElem?_eq_getElem (by omega)⟩
 have hsl := o3 at_ u0 l hu0 hm
 obtain ⟨A', c', hv', s1, s2, s3, hC'⟩ := hsl
 injection hv' with hv'
 subst hv'
 obtain ⟨ad, cs, hA5, hadb, hads, ⟨rfl, hii⟩, hc0, hcj⟩ := hcode.elem at_ i hci
 obtain ⟨op, a, b, c, line⟩ := i
 simp only [Ord.cells] at hop hjmp hc0 hcj ⊢
 have n28 : (op == 28) = false := by rw [hop]; rfl
 have n29 : (op == 29) = false := by rw [hop]; rfl
 have n13 : (op == 13) = false := by rw [hop]; rfl
 have n14 : (op == 14) = true := by rw [hop]; rfl
 clear hop
 have x0 : w.cell? (ad.add (at_ * 5)) = some (.int .i64 op) := hc0 _ rfl
 have x1 : w.cell? ⟨(ad.add (at_ * 5)).block, (ad.add (at_ * 5)).off + 1, none⟩ = some (.int .i64 a) := hcj 0 _ rfl
 have x2 : w.cell? ⟨(ad.add (at_ * 5)).block, (ad.add (at_ * 5)).off + 2, none⟩ = some (.int .i64 b) := hcj 1 _ rfl
 have x3 : w.cell? ⟨(ad.add (at_ * 5)).block, (ad.add (at_ * 5)).off + 3, none⟩ = some (.int .i64 c) := hcj 2 _ rfl
 have x4 : w.cell? ⟨(ad.add (at_ * 5)).block, (ad.add (at_ * 5)).off + 4, none⟩ = some (.int .i64 line) := hcj 3 _ rfl
 have xb : (ad.add (at_ * 5)).block < w.heap.size := by rw [Rd.block_add]; exact hads
 have e4 : w.cell? ⟨f.wb, 4, none⟩ = some (.slice (some ad) f.n f.c5) := by rw [cell_at h.hw 4 rfl]; simp [hA5]
 have e6 : w.cell? ⟨f.wb, 6, none⟩ = some (.slice (some ⟨f.ob, 0, none⟩) f.n f.n) := cell_at h.hw 6 rfl
 have eo : w.cell? ⟨f.ob, at_, none⟩ = some (.slice A' l.length c') := cell_at o1 at_ (by simpa using hu0)
 have lw : f.wb < w.heap.size := (Array.getElem?_eq_some_iff.1 h.hw).1
 have lo : f.ob < w.heap.size := (Array.getElem?_eq_some_iff.1 o1).1
 have ls : f.sb < w.heap.size := (Array.getElem?_eq_some_iff.1 h.hs).1
 have hn := h.hn
 have hb1 : (at_ : Int) < (f.n : Int) := by omega
 obtain ⟨W1, hW1⟩ : ∃ W1, W1 = (w.alloc (.cells #[.int .i64 op, .int .i64 a, .int .i64 b, .int .i64 c, .int .i64 line] 189)).drew := ⟨_, rfl⟩
 have sz1 : W1.heap.size = w.heap.size + 1 := by rw [hW1]; simp
 have same : Below w.heap.size w W1 := by rw [hW1]; exact ((Below.refl _ _).alloc (Nat.le_refl _) _).drew
 have hWS := h.same (fun k hk => same.block k hk)
 have hok : f.ok vt w.heap.size := ⟨by omega, by omega, by omega, fun he => by have := (h.own.lt _ he.symm).2; omega⟩
 have hK0 : Kept f w W1 vt vt := Kept.same same
 have hL : SlK rdTry (f.ok vt) W1 l (.slice A' l.length c') := hK0.list ⟨A', c', rfl, s1, s2, s3, hC'⟩
 have y0 : W1.cell? ⟨w.heap.size, 0, none⟩ = some (.int .i64 op) := by rw [hW1]; show (w.alloc _).cell? _ = _; exact laid_cell _ _ _ _ rfl
 have y1 : W1.cell? ⟨w.heap.size, 1, none⟩ = some (.int .i64 a) := by rw [hW1]; show (w.alloc _).cell? _ = _; exact laid_cell _ _ _ _ rfl
 have y2 : W1.cell? ⟨w.heap.size, 2, none⟩ = some (.int .i64 b) := by rw [hW1]; show (w.alloc _).cell? _ = _; exact laid_cell _ _ _ _ rfl
 have HCM := Lib.hid (fun (x : Int) (hx : 0 ≤ x) => come_any W1 base (by omega) f vt st hWS x hx _ l hL (by omega))
 have H0 := Lib.hid (And.intro (same.mono hbase) (And.intro hK0 hWS))
 have HL := Lib.hid hL
 have HO := Lib.hid hok
 clear h o1 o2 o3 hu0 hC' hc0 hcj hcode same hWS hK0 hL hok hads hadb hA5 hii
 go_enter Tryd.func150, Tryd.ntmps150
 go_wp2_with fail
 go_region
 rw [← hW1]
 clear hW1 x0 x1 x2 x3 x4 xb e4 e6 eo lo ls
 go_wp2_with fail
 refine (HCM.out a hjmp).mono ?_
 rintro e w2 ⟨rfl, hb, vt2, hk, hws⟩
 have R := Lib.hid (And.intro (H0.out.1.trans hb) (And.intro (H0.out.2.1.trans hk) hws))
 clear hb hk hws
 go_wp2_with fail
 refine bodyPost_ret (results_none rfl _ _ _) rfl ?_
 exact ⟨rfl, R.out.1, vt2, R.out.2.1, R.out.2.2⟩


set_option maxRecDepth 100000 in
set_option maxHeartbeats 8000000 in
theorem from_15 (w : World) (base : Nat) (hbase : base ≤ w.heap.size) (f : Wf) (vt : Value) (st : St) (h : WS w base f vt st) (hlen : st.todo.length ≤ 900) (at_ : Nat) (hi : at_ < f.n) (code : List Ord) (hcode : rdOrd.CB base w f.A5 f.n code) (i : Ord) (hci : code[at_]? = some i) (l : List Tr) (hm : st.out[at_]? = some l) (h20 : l.length ≤ 20) (hop : i.op = 15) (hjmp : 0 ≤ i.b) :
  Calls Tryd.prog 150 #[.pointer (some ⟨f.wb, 0, none⟩), .int .i64 at_] w fun e w' => e = .returned (.tuple #[]) ∧ Below base w w' ∧ ∃ vt', Kept f w w' vt vt' ∧ WS w' base f vt' (comeF f.n (comeF f.n st i.b l) ((at_ : Int) + 1) l) := by
 obtain ⟨outv, o1, o2, o3⟩ := h.ho
 obtain ⟨u0, hu0⟩ : ∃ u0, outv[at_]? = some u0 := ⟨_, List.getElem?_eq_getElem (by omega)⟩
 have hsl := o3 at_ u0 l hu0 hm
 obtain ⟨A', c', hv', s1, s2, s3, hC'⟩ := hsl
 injection hv' with hv'
 subst hv'
 obtain ⟨ad, cs, hA5, hadb, hads, ⟨rfl, hii⟩, hc0, hcj⟩ := hcode.elem at_ i hci
 obtain ⟨op, a, b, c, line⟩ := i
 simp only [Ord.cells] at hop hjmp hc0 hcj ⊢
 have n28 : (op == 28) = false := by rw [hop]; rfl
 have n29 : (op == 29) = false := by rw [hop]; rfl
 have n13 : (op == 13) = false := by rw [hop]; rfl
 have n14 : (op == 14) = false := by rw [hop]; rfl
 have n15 : (op == 15) = true := by rw [hop]; rfl
 clear hop
 have x0 : w.cell? (ad.add (at_ * 5)) = some (.int .i64 op) := hc0 _ rfl
 have x1 : w.cell? ⟨(ad.add (at_ * 5)).block, (ad.add (at_ * 5)).off + 1, none⟩ = some (.int .i64 a) := hcj 0 _ rfl
 have x2 : w.cell? ⟨(ad.add (at_ * 5)).block, (ad.add (at_ * 5)).off + 2, none⟩ = some (.int .i64 b) := hcj 1 _ rfl
 have x3 : w.cell? ⟨(ad.add (at_ * 5)).block, (ad.add (at_ * 5)).off + 3, none⟩ = some (.int .i64 c) := hcj 2 _ rfl
 have x4 : w.cell? ⟨(ad.add (at_ * 5)).block, (ad.add (at_ * 5)).off + 4, none⟩ = some (.int .i64 line) := hcj 3 _ rfl
 have xb : (ad.add (at_ * 5)).block < w.heap.size := by rw [Rd.block_add]; exact hads
 have e4 : w.cell? ⟨f.wb, 4, none⟩ = some (.slice (some ad) f.n f.c5) := by rw [cell_at h.hw 4 rfl]; simp [hA5]
 have e6 : w.cell? ⟨f.wb, 6, none⟩ = some (.slice (some ⟨f.ob, 0, none⟩) f.n f.n) := cell_at h.hw 6 rfl
 have eo : w.cell? ⟨f.ob, at_, none⟩ = some (.slice A' l.length c') := cell_at o1 at_ (by simpa using hu0)
 have lw : f.wb < w.heap.size := (Array.getElem?_eq_some_iff.1 h.hw).1
 have lo : f.ob < w.heap.size := (Array.getElem?_eq_some_iff.1 o1).1
 have ls : f.sb < w.heap.size := (Array.getElem?_eq_some_iff.1 h.hs).1
 have hn := h.hn
 have hb1 : (at_ : Int) < (f.n : Int) := by omega
 obtain ⟨W1, hW1⟩ : ∃ W1, W1 = (w.alloc (.cells #[.int .i64 op, .int .i64 a, .int .i64 b, .int .i64 c, .int .i64 line] 189)).drew := ⟨_, rfl⟩
 have sz1 : W1.heap.size = w.heap.size + 1 := by rw [hW1]; simp
 have same : Below w.heap.size w W1 := by rw [hW1]; exact ((Below.refl _ _).alloc (Nat.le_refl _) _).drew
 have hWS := h.same (fun k hk => same.block k hk)
 have hok : f.ok vt w.heap.size := ⟨by omega, by omega, by omega, fun he => by have := (h.own.lt _ he.symm).2; omega⟩
 have hK0 : Kept f w W1 vt vt := Kept.same same
 have hL : SlK rdTry (f.ok vt) W1 l (.slice A' l.length c') := hK0.list ⟨A', c', rfl, s1, s2, s3, hC'⟩
 have y0 : W1.cell? ⟨w.heap.size, 0, none⟩ = some (.int .i64 op) := by rw [hW1]; show (w.alloc _).cell? _ = _; exact laid_cell _ _ _ _ rfl
 have y1 : W1.cell? ⟨w.heap.size, 1, none⟩ = some (.int .i64 a) := by rw [hW1]; show (w.alloc _).cell? _ = _; exact laid_cell _ _ _ _ rfl
 have y2 : W1.cell? ⟨w.heap.size, 2, none⟩ = some (.int .i64 b) := by rw [hW1]; show (w.alloc _).cell? _ = _; exact laid_cell _ _ _ _ rfl
 have HCM := Lib.hid (fun (x : Int) (hx : 0 ≤ x) => come_any W1 base (by omega) f vt st hWS x hx _ l hL (by omega))
 have H0 := Lib.hid (And.intro (same.mono hbase) (And.intro hK0 hWS))
 have HL := Lib.hid hL
 have HO := Lib.hid hok
 clear h o1 o2 o3 hu0 hC' hc0 hcj hcode same hWS hK0 hL hok hads hadb hA5 hii
 go_enter Tryd.func150, Tryd.ntmps150
 go_wp2_with fail
 go_region
 rw [← hW1]
 clear hW1 x0 x1 x2 x3 x4 xb e4 e6 eo lo ls
 go_wp2_with fail
 refine (HCM.out b hjmp).mono ?_
 rintro e w2 ⟨rfl, hb, vt2, hk, hws⟩
 have hsz : w.heap.size + 1 ≤ w2.heap.size := by have := hk.size; omega
 have HC2 := Lib.hid (come_any w2 base (by omega) f vt2 _ hws ((at_ : Int) + 1) (by omega) _ l (hk.list HL.out) (by have := comeF_todo f.n st b l; omega))
 have R := Lib.hid (And.intro (H0.out.1.trans hb) (H0.out.2.1.trans hk))
 clear hb hk hws
 go_wp2_with fail
 refine (HC2.out).mono ?_
 rintro e w3 ⟨rfl, hb, vt3, hk, hws⟩
 have R2 := Lib.hid (And.intro (R.out.1.trans hb) (And.intro (R.out.2.trans hk) hws))
 clear hb hk hws
 go_wp2_with fail
 go_end0
 exact ⟨rfl, R2.out.1, vt3, R2.out.2.1, R2.out.2.2⟩


set_option maxRecDepth 100000 in
set_option maxHeartbeats 8000000 in
theorem from_else (w : World) (base : Nat) (hbase : base ≤ w.heap.size) (f : Wf) (vt : Value) (st : St) (h : WS w base f vt st) (hlen : st.todo.length ≤ 900) (at_ : Nat) (hi : at_ < f.n) (code : List Ord) (hcode : rdOrd.CB base w f.A5 f.n code) (i : Ord) (hci : code[at_]? = some i) (l : List Tr) (hm : st.out[at_]? = some l) (h20 : l.length ≤ 20) (hop : (i.op == 28) = false ∧ (i.op == 29) = false ∧ (i.op == 13) = false ∧ (i.op == 14) = false ∧ (i.op == 15) = false ∧ (i.op == 30) = false ∧ (i.op == 31) = false) :
  Calls Tryd.prog 150 #[.pointer (some ⟨f.wb, 0, none⟩), .int .i64 at_] w fun e w' => e = .returned (.tuple #[]) ∧ Below base w w' ∧ ∃ vt', Kept f w w' vt vt' ∧ WS w' base f vt' (comeF f.n st ((at_ : Int) + 1) l) := by
 obtain ⟨outv, o1, o2, o3⟩ := h.ho
 obtain ⟨u0, hu0⟩ : ∃ u0, outv[at_]? = some u0 := ⟨_, List.getElem?_eq_getElem (by omega)⟩
 have hsl := o3 at_ u0 l hu0 hm
 obtain ⟨A', c', hv', s1, s2, s3, hC'⟩ := hsl
 injection hv' with hv'
 subst hv'
 obtain ⟨ad, cs, hA5, hadb, hads, ⟨rfl, hii⟩, hc0, hcj⟩ := hcode.elem at_ i hci
 obtain ⟨op, a, b, c, line⟩ := i
 simp only [Ord.cells] at hop hc0 hcj ⊢
 obtain ⟨n28, n29, n13, n14, n15, n30, n31⟩ := hop
 have x0 : w.cell? (ad.add (at_ * 5)) = some (.int .i64 op) := hc0 _ rfl
 have x1 : w.cell? ⟨(ad.add (at_ * 5)).block, (ad.add (at_ * 5)).off + 1, none⟩ = some (.int .i64 a) := hcj 0 _ rfl
 have x2 : w.cell? ⟨(ad.add (at_ * 5)).block, (ad.add (at_ * 5)).off + 2, none⟩ = some (.int .i64 b) := hcj 1 _ rfl
 have x3 : w.cell? ⟨(ad.add (at_ * 5)).block, (ad.add (at_ * 5)).off + 3, none⟩ = some (.int .i64 c) := hcj 2 _ rfl
 have x4 : w.cell? ⟨(ad.add (at_ * 5)).block, (ad.add (at_ * 5)).off + 4, none⟩ = some (.int .i64 line) := hcj 3 _ rfl
 have xb : (ad.add (at_ * 5)).block < w.heap.size := by rw [Rd.block_add]; exact hads
 have e4 : w.cell? ⟨f.wb, 4, none⟩ = some (.slice (some ad) f.n f.c5) := by rw [cell_at h.hw 4 rfl]; simp [hA5]
 have e6 : w.cell? ⟨f.wb, 6, none⟩ = some (.slice (some ⟨f.ob, 0, none⟩) f.n f.n) := cell_at h.hw 6 rfl
 have eo : w.cell? ⟨f.ob, at_, none⟩ = some (.slice A' l.length c') := cell_at o1 at_ (by simpa using hu0)
 have lw : f.wb < w.heap.size := (Array.getElem?_eq_some_iff.1 h.hw).1
 have lo : f.ob < w.heap.size := (Array.getElem?_eq_some_iff.1 o1).1
 have ls : f.sb < w.heap.size := (Array.getElem?_eq_some_iff.1 h.hs).1
 have hn := h.hn
 have hb1 : (at_ : Int) < (f.n : Int) := by omega
 obtain ⟨W1, hW1⟩ : ∃ W1, W1 = (w.alloc (.cells #[.int .i64 op, .int .i64 a, .int .i64 b, .int .i64 c, .int .i64 line] 189)).drew := ⟨_, rfl⟩
 have sz1 : W1.heap.size = w.heap.size + 1 := by rw [hW1]; simp
 have same : Below w.heap.size w W1 := by rw [hW1]; exact ((Below.refl _ _).alloc (Nat.le_refl _) _).drew
 have hWS := h.same (fun k hk => same.block k hk)
 have hok : f.ok vt w.heap.size := ⟨by omega, by omega, by omega, fun he => by have := (h.own.lt _ he.symm).2; omega⟩
 have hK0 : Kept f w W1 vt vt := Kept.same same
 have hL : SlK rdTry (f.ok vt) W1 l (.slice A' l.length c') := hK0.list ⟨A', c', rfl, s1, s2, s3, hC'⟩
 have y0 : W1.cell? ⟨w.heap.size, 0, none⟩ = some (.int .i64 op) := by rw [hW1]; show (w.alloc _).cell? _ = _; exact laid_cell _ _ _ _ rfl
 have y1 : W1.cell? ⟨w.heap.size, 1, none⟩ = some (.int .i64 a) := by rw [hW1]; show (w.alloc _).cell? _ = _; exact laid_cell _ _ _ _ rfl
 have y2 : W1.cell? ⟨w.heap.size, 2, none⟩ = some (.int .i64 b) := by rw [hW1]; show (w.alloc _).cell? _ = _; exact laid_cell _ _ _ _ rfl
 have HCM := Lib.hid (fun (x : Int) (hx : 0 ≤ x) => come_any W1 base (by omega) f vt st hWS x hx _ l hL (by omega))
 have H0 := Lib.hid (And.intro (same.mono hbase) (And.intro hK0 hWS))
 have HL := Lib.hid hL
 have HO := Lib.hid hok
 clear h o1 o2 o3 hu0 hC' hc0 hcj hcode same hWS hK0 hL hok hads hadb hA5 hii
 go_enter Tryd.func150, Tryd.ntmps150
 go_wp2_with fail
 go_region
 rw [← hW1]
 clear hW1 x0 x1 x2 x3 x4 xb e4 e6 eo lo ls
 go_wp2_with fail
 refine (HCM.out ((at_ : Int) + 1) (by omega)).mono ?_
 rintro e w2 ⟨rfl, hb, vt2, hk, hws⟩
 have R := Lib.hid (And.intro (H0.out.1.trans hb) (And.intro (H0.out.2.1.trans hk) hws))
 clear hb hk hws
 go_wp2_with fail
 go_end0
 exact ⟨rfl, R.out.1, vt2, R.out.2.1, R.out.2.2⟩


set_option maxRecDepth 100000 in
set_option maxHeartbeats 8000000 in
theorem from_31a (w : World) (base : Nat) (hbase : base ≤ w.heap.size) (f : Wf) (vt : Value) (st : St) (h : WS w base f vt st) (hlen : st.todo.length ≤ 900) (at_ : Nat) (hi : at_ < f.n) (code : List Ord) (hcode : rdOrd.CB base w f.A5 f.n code) (i : Ord) (hci : code[at_]? = some i) (l : List Tr) (hm : st.out[at_]? = some l) (h20 : l.length ≤ 20) (hop : i.op = 31) (hl0 : l = []) :
  Calls Tryd.prog 150 #[.pointer (some ⟨f.wb, 0, none⟩), .int .i64 at_] w fun e w' => e = .returned (.tuple #[]) ∧ Below base w w' ∧ ∃ vt', Kept f w w' vt vt' ∧ WS w' base f vt' { st with bad := true } := by
 obtain ⟨outv, o1, o2, o3⟩ := h.ho
 obtain ⟨u0, hu0⟩ : ∃ u0, outv[at_]? = some u0 := ⟨_, List.getElem?_eq_getElem (by omega)⟩
 have hsl := o3 at_ u0 l hu0 hm
 obtain ⟨A', c', hv', s1, s2, s3, hC'⟩ := hsl
 injection hv' with hv'
 subst hv'
 obtain ⟨ad, cs, hA5, hadb, hads, ⟨rfl, hii⟩, hc0, hcj⟩ := hcode.elem at_ i hci
 obtain ⟨op, a, b, c, line⟩ := i
 simp only [Ord.cells] at hop hl0 hc0 hcj ⊢
 have n28 : (op == 28) = false := by rw [hop]; rfl
 have n29 : (op == 29) = false := by rw [hop]; rfl
 have n13 : (op == 13) = false := by rw [hop]; rfl
 have n14 : (op == 14) = false := by rw [hop]; rfl
 have n15 : (op == 15) = false := by rw [hop]; rfl
 have n30 : (op == 30) = false := by rw [hop]; rfl
 have n31 : (op == 31) = true := by rw [hop]; rfl
 clear hop
 have hl1 : ((l.length : Int) == 0) = true := by rw [hl0]; rfl
 have x0 : w.cell? (ad.add (at_ * 5)) = some (.int .i64 op) := hc0 _ rfl
 have x1 : w.cell? ⟨(ad.add (at_ * 5)).block, (ad.add (at_ * 5)).off + 1, none⟩ = some (.int .i64 a) := hcj 0 _ rfl
 have x2 : w.cell? ⟨(ad.add (at_ * 5)).block, (ad.add (at_ * 5)).off + 2, none⟩ = some (.int .i64 b) := hcj 1 _ rfl
 have x3 : w.cell? ⟨(ad.add (at_ * 5)).block, (ad.add (at_ * 5)).off + 3, none⟩ = some (.int .i64 c) := hcj 2 _ rfl
 have x4 : w.cell? ⟨(ad.add (at_ * 5)).block, (ad.add (at_ * 5)).off + 4, none⟩ = some (.int .i64 line) := hcj 3 _ rfl
 have xb : (ad.add (at_ * 5)).block < w.heap.size := by rw [Rd.block_add]; exact hads
 have e4 : w.cell? ⟨f.wb, 4, none⟩ = some (.slice (some ad) f.n f.c5) := by rw [cell_at h.hw 4 rfl]; simp [hA5]
 have e6 : w.cell? ⟨f.wb, 6, none⟩ = some (.slice (some ⟨f.ob, 0, none⟩) f.n f.n) := cell_at h.hw 6 rfl
 have eo : w.cell? ⟨f.ob, at_, none⟩ = some (.slice A' l.length c') := cell_at o1 at_ (by simpa using hu0)
 have lw : f.wb < w.heap.size := (Array.getElem?_eq_some_iff.1 h.hw).1
 have lo : f.ob < w.heap.size := (Array.getElem?_eq_some_iff.1 o1).1
 have ls : f.sb < w.heap.size := (Array.getElem?_eq_some_iff.1 h.hs).1
 have hn := h.hn
 have hb1 : (at_ : Int) < (f.n : Int) := by omega
 obtain ⟨W1, hW1⟩ : ∃ W1, W1 = (w.alloc (.cells #[.int .i64 op, .int .i64 a, .int .i64 b, .int .i64 c, .int .i64 line] 189)).drew := ⟨_, rfl⟩
 have sz1 : W1.heap.size = w.heap.size + 1 := by rw [hW1]; simp
 have same : Below w.heap.size w W1 := by rw [hW1]; exact ((Below.refl _ _).alloc (Nat.le_refl _) _).drew
 have hWS := h.same (fun k hk => same.block k hk)
 have hok : f.ok vt w.heap.size := ⟨by omega, by omega, by omega, fun he => by have := (h.own.lt _ he.symm).2; omega⟩
 have hK0 : Kept f w W1 vt vt := Kept.same same
 have hL : SlK rdTry (f.ok vt) W1 l (.slice A' l.length c') := hK0.list ⟨A', c', rfl, s1, s2, s3, hC'⟩
 have y0 : W1.cell? ⟨w.heap.size, 0, none⟩ = some (.int .i64 op) := by rw [hW1]; show (w.alloc _).cell? _ = _; exact laid_cell _ _ _ _ rfl
 have y1 : W1.cell? ⟨w.heap.size, 1, none⟩ = some (.int .i64 a) := by rw [hW1]; show (w.alloc _).cell? _ = _; exact laid_cell _ _ _ _ rfl
 have y2 : W1.cell? ⟨w.heap.size, 2, none⟩ = some (.int .i64 b) := by rw [hW1]; show (w.alloc _).cell? _ = _; exact laid_cell _ _ _ _ rfl
 have HCM := Lib.hid (fun (x : Int) (hx : 0 ≤ x) => come_any W1 base (by omega) f vt st hWS x hx _ l hL (by omega))
 have H0 := Lib.hid (And.intro (same.mono hbase) (And.intro hK0 hWS))
 have HL := Lib.hid hL
 have HO := Lib.hid hok
 clear h o1 o2 o3 hu0 hC' hc0 hcj hcode same hWS hK0 hL hok hads hadb hA5 hii
 go_enter Tryd.func150, Tryd.ntmps150
 go_wp2_with fail
 go_region
 rw [← hW1]
 clear hW1 x0 x1 x2 x3 x4 xb e4 e6 eo lo ls
 have e8 : W1.cell? ⟨f.wb, 8, none⟩ = some (.bool st.bad) := cell_at H0.out.2.2.hw 8 rfl
 have fr : W1.frozen? ⟨f.wb, 8, none⟩ = false := free_at H0.out.2.2.hw 8
 go_wp2_with fail
 refine bodyPost_ret (results_none rfl _ _ _) rfl ?_
 exact ⟨rfl, H0.out.1.trans (H0.out.2.2.below 8 _), vt, H0.out.2.1.trans (Kept.wbset f W1 8 _ vt), H0.out.2.2.setBad⟩


set_option maxRecDepth 100000 in
set_option maxHeartbeats 8000000 in
theorem from_31b (w : World) (base : Nat) (hbase : base ≤ w.heap.size) (f : Wf) (vt : Value) (st : St) (h : WS w base f vt st) (hlen : st.todo.length ≤ 900) (at_ : Nat) (hi : at_ < f.n) (code : List Ord) (hcode : rdOrd.CB base w f.A5 f.n code) (i : Ord) (hci : code[at_]? = some i) (l : List Tr) (hm : st.out[at_]? = some l) (h20 : l.length ≤ 20) (hop : i.op = 31) (hl0 : l ≠ []) :
  Calls Tryd.prog 150 #[.pointer (some ⟨f.wb, 0, none⟩), .int .i64 at_] w fun e w' => e = .returned (.tuple #[]) ∧ Below base w w' ∧ ∃ vt', Kept f w w' vt vt' ∧ WS w' base f vt' (comeF f.n st ((at_ : Int) + 1) l.dropLast) := by
 obtain ⟨outv, o1, o2, o3⟩ := h.ho
 obtain ⟨u0, hu0⟩ : ∃ u0, outv[at_]? = some u0 := ⟨_, List.getElem?_eq_getElem (by omega)⟩
 have hsl := o3 at_ u0 l hu0 hm
 obtain ⟨A', c', hv', s1, s2, s3, hC'⟩ := hsl
 injection hv' with hv'
 subst hv'
 obtain ⟨ad, cs, hA5, hadb, hads, ⟨rfl, hii⟩, hc0, hcj⟩ := hcode.elem at_ i hci
 obtain ⟨op, a, b, c, line⟩ := i
 simp only [Ord.cells] at hop hl0 hc0 hcj ⊢
 have n28 : (op == 28) = false := by rw [hop]; rfl
 have n29 : (op == 29) = false := by rw [hop]; rfl
 have n13 : (op == 13) = false := by rw [hop]; rfl
 have n14 : (op == 14) = false := by rw [hop]; rfl
 have n15 : (op == 15) = false := by rw [hop]; rfl
 have n30 : (op == 30) = false := by rw [hop]; rfl
 have n31 : (op == 31) = true := by rw [hop]; rfl
 clear hop
 have hlp : 0 < l.length := List.length_pos_iff.2 hl0
 have hl1 : ((l.length : Int) == 0) = false := by simp; exact hl0
 have hl2 : (l.length : Int) ≤ 20 := by omega
 have x0 : w.cell? (ad.add (at_ * 5)) = some (.int .i64 op) := hc0 _ rfl
 have x1 : w.cell? ⟨(ad.add (at_ * 5)).block, (ad.add (at_ * 5)).off + 1, none⟩ = some (.int .i64 a) := hcj 0 _ rfl
 have x2 : w.cell? ⟨(ad.add (at_ * 5)).block, (ad.add (at_ * 5)).off + 2, none⟩ = some (.int .i64 b) := hcj 1 _ rfl
 have x3 : w.cell? ⟨(ad.add (at_ * 5)).block, (ad.add (at_ * 5)).off + 3, none⟩ = some (.int .i64 c) := hcj 2 _ rfl
 have x4 : w.cell? ⟨(ad.add (at_ * 5)).block, (ad.add (at_ * 5)).off + 4, none⟩ = some (.int .i64 line) := hcj 3 _ rfl
 have xb : (ad.add (at_ * 5)).block < w.heap.size := by rw [Rd.block_add]; exact hads
 have e4 : w.cell? ⟨f.wb, 4, none⟩ = some (.slice (some ad) f.n f.c5) := by rw [cell_at h.hw 4 rfl]; simp [hA5]
 have e6 : w.cell? ⟨f.wb, 6, none⟩ = some (.slice (some ⟨f.ob, 0, none⟩) f.n f.n) := cell_at h.hw 6 rfl
 have eo : w.cell? ⟨f.ob, at_, none⟩ = some (.slice A' l.length c') := cell_at o1 at_ (by simpa using hu0)
 have lw : f.wb < w.heap.size := (Array.getElem?_eq_some_iff.1 h.hw).1
 have lo : f.ob < w.heap.size := (Array.getElem?_eq_some_iff.1 o1).1
 have ls : f.sb < w.heap.size := (Array.getElem?_eq_some_iff.1 h.hs).1
 have hn := h.hn
 have hb1 : (at_ : Int) < (f.n : Int) := by omega
 obtain ⟨W1, hW1⟩ : ∃ W1, W1 = (w.alloc (.cells #[.int .i64 op, .int .i64 a, .int .i64 b, .int .i64 c, .int .i64 line] 189)).drew := ⟨_, rfl⟩
 have sz1 : W1.heap.size = w.heap.size + 1 := by rw [hW1]; simp
 have same : Below w.heap.size w W1 := by rw [hW1]; exact ((Below.refl _ _).alloc (Nat.le_refl _) _).drew
 have hWS := h.same (fun k hk => same.block k hk)
 have hok : f.ok vt w.heap.size := ⟨by omega, by omega, by omega, fun he => by have := (h.own.lt _ he.symm).2; omega⟩
 have hK0 : Kept f w W1 vt vt := Kept.same same
 have hL : SlK rdTry (f.ok vt) W1 l (.slice A' l.length c') := hK0.list ⟨A', c', rfl, s1, s2, s3, hC'⟩
 have y0 : W1.cell? ⟨w.heap.size, 0, none⟩ = some (.int .i64 op) := by rw [hW1]; show (w.alloc _).cell? _ = _; exact laid_cell _ _ _ _ rfl
 have y1 : W1.cell? ⟨w.heap.size, 1, none⟩ = some (.int .i64 a) := by rw [hW1]; show (w.alloc _).cell? _ = _; exact laid_cell _ _ _ _ rfl
 have y2 : W1.cell? ⟨w.heap.size, 2, none⟩ = some (.int .i64 b) := by rw [hW1]; show (w.alloc _).cell? _ = _; exact laid_cell _ _ _ _ rfl
 have HCM := Lib.hid (fun (x : Int) (hx : 0 ≤ x) => come_any W1 base (by omega) f vt st hWS x hx _ l hL (by omega))
 have H0 := Lib.hid (And.intro (same.mono hbase) (And.intro hK0 hWS))
 have HL := Lib.hid hL
 have HO := Lib.hid hok
 clear h o1 o2 o3 hu0 hC' hc0 hcj hcode same hWS hK0 hL hok hads hadb hA5 hii
 go_enter Tryd.func150, Tryd.ntmps150
 go_wp2_with fail
 go_region
 rw [← hW1]
 clear hW1 x0 x1 x2 x3 x4 xb e4 e6 eo lo ls
 have HC3 : Hid (Calls Tryd.prog 149 #[.pointer (some ⟨f.wb, 0, none⟩), .int .i64 ((at_ : Int) + 1), .slice A' (l.length - 1) c'] W1 fun e w' => e = .returned (.tuple #[]) ∧ Below base W1 w' ∧ ∃ vt', Kept f W1 w' vt vt' ∧ WS w' base f vt' (comeF f.n st ((at_ : Int) + 1) l.dropLast)) := Lib.hid (come_any W1 base (by omega) f vt st H0.out.2.2 _ (by omega) _ l.dropLast (by
  obtain ⟨A1, c1, hq, g1, g2, g3, gC⟩ := HL.out
  injection hq with hq
  injection hq with q1 q2 q3
  subst q1 q3
  have hdl : l.dropLast.length = l.length - 1 := List.length_dropLast
  refine ⟨_, _, by rw [hdl], by rw [hdl]; omega, g2, g3, ?_⟩
  have := gC.take (l.length - 1) (by omega)
  rw [hdl, List.dropLast_eq_take]
  exact this) (by omega))
 go_wp2_with fail
 refine (HC3.out).mono ?_
 rintro e w2 ⟨rfl, hb, vt2, hk, hws⟩
 have R := Lib.hid (And.intro (H0.out.1.trans hb) (And.intro (H0.out.2.1.trans hk) hws))
 clear hb hk hws
 go_wp2_with fail
 go_end0
 exact ⟨rfl, R.out.1, vt2, R.out.2.1, R.out.2.2⟩

end Go.Proofs.YtefkifdhjabdiaaDoor
namespace Go.Proofs.YtefkifdhjabdiaaDoor
set_option linter.unusedVariables false
set_option linter.unusedSimpArgs false
open Go.RowKit

/-- At the operation in a region: an append whose run is known. -/
theorem wp_append_eq {P : Program} {o : Oper} {a : Act} {K : Act → World → Prop} {Q : Exit → Act → World → Prop} {w w1 : World} {v1 : Value} (s x : Operand) (t : TypeId)
  (ho : o.op = .call { callee := .builtin .append, args := #[s, x], argTypes := #[t, t] }) (v y : Value) (hs : a.eval s = v) (hx : a.eval x = y) (hr : (Builtin.append_ #[t, t] o.type #[v, y]).run P w = .ok v1 w1)
  (h : K (a.put o.dst v1) w1) : o.wp P a w K Q := by
 unfold Oper.wp execOp
 simp only [ho, resolve, invoke, builtin, Sem.run_bind, Sem.run_pure, Result.andThen_ok, List.map_toArray, List.map_cons, List.map_nil, hs, hx, hr]
 exact h
theorem C_litTry {w : World} (b : Nat) (t : TypeId) (fr : Nat × Nat) (x : Tr) (hx : Rd.IsInt x.reg ∧ Rd.IsInt x.at_) (hb : w.heap[b]? = some (.cells #[.int .i64 x.reg, .int .i64 x.at_] t fr)) : rdTry.C (· = b) w (some ⟨b, 0, none⟩) 1 [x] :=
 ⟨rfl, by omega, fun _ => ⟨_, rfl, rfl, (Array.getElem?_eq_some_iff.1 hb).1, fun i y hi => by
  match i, hi with
  | 0, hi =>
   simp at hi
   subst hi
   refine ⟨_, ⟨rfl, hx⟩, fun j u hj => ?_⟩
   have e : (⟨b, 0, none⟩ : Addr).add (0 * rdTry.sz + j) = ⟨b, j, none⟩ := by
    unfold Addr.add; split
    ·rename_i h; simp at h; simp [h]
    ·simp
   rw [e, World.cell?, hb]
   simpa [Tr.cells] using hj
  | n + 1, hi => simp at hi⟩⟩
/-- What the clone and the element come to. -/
theorem try_append (w : World) (base B : Nat) (v : Value) (l : List Tr) (x : Tr) (hx : Rd.IsInt x.reg ∧ Rd.IsInt x.at_) (blk : Nat) (hblk : w.heap[blk]? = some (.cells #[.int .i64 x.reg, .int .i64 x.at_] 226 (0, 0))) (ho : Own rdTry 226 (fun _ => False) w B v l) (hne : v.ownBlock ≠ some blk) (hB : B ≤ w.heap.size) (hl : l.length ≤ 1000) :
  ∃ v1 w1, (Builtin.append_ #[223, 223] 223 #[v, .slice (some ⟨blk, 0, none⟩) 1 1]).run Tryd.prog w = .ok v1 w1 ∧ Own rdTry 226 (fun _ => False) w1 B v1 (l ++ [x]) ∧ Below B w w1 := by
 obtain ⟨v1, w1, hr, ho1, hg, hat⟩ := (ho.mono (ok' := fun k => k = blk) (fun k hk => hk.elim)).append (t := 223) Tryd.underlying223 infoTry rfl (by decide) (by decide) (some ⟨blk, 0, none⟩) 1 1 (fun h => by cases h) (C_litTry blk _ _ x hx hblk) (fun k hk => ⟨hk, fun he => hne (by rw [← he, hk])⟩) (by omega) hB 223
 exact ⟨v1, w1, hr, ho1.any, (Below.refl _ _).grown hg hB (fun k hk => (ho.lt k hk).1)⟩

set_option maxRecDepth 100000 in
set_option maxHeartbeats 8000000 in
theorem from_30 (w : World) (base : Nat) (hbase : base ≤ w.heap.size) (f : Wf) (vt : Value) (st : St) (h : WS w base f vt st) (hlen : st.todo.length ≤ 900) (at_ : Nat) (hi : at_ < f.n) (code : List Ord) (hcode : rdOrd.CB base w f.A5 f.n code) (i : Ord) (hci : code[at_]? = some i) (l : List Tr) (hm : st.out[at_]? = some l) (h20 : l.length ≤ 20) (hop : i.op = 30) (hjmp : 0 ≤ i.b) :
  Calls Tryd.prog 150 #[.pointer (some ⟨f.wb, 0, none⟩), .int .i64 at_] w fun e w' => e = .returned (.tuple #[]) ∧ Below base w w' ∧ ∃ vt', Kept f w w' vt vt' ∧ WS w' base f vt' (comeF f.n (comeF f.n st i.b l) ((at_ : Int) + 1) (l ++ [⟨i.a, i.b⟩])) := by
 obtain ⟨outv, o1, o2, o3⟩ := h.ho
 obtain ⟨u0, hu0⟩ : ∃ u0, outv[at_]? = some u0 := ⟨_, List.getElem?_eq_getElem (by omega)⟩
 have hsl := o3 at_ u0 l hu0 hm
 obtain ⟨A', c', hv', s1, s2, s3, hC'⟩ := hsl
 injection hv' with hv'
 subst hv'
 obtain ⟨ad, cs, hA5, hadb, hads, ⟨rfl, hii⟩, hc0, hcj⟩ := hcode.elem at_ i hci
 obtain ⟨op, a, b, c, line⟩ := i
 simp only [Ord.cells] at hop hjmp hc0 hcj ⊢
 have n28 : (op == 28) = false := by rw [hop]; rfl
 have n29 : (op == 29) = false := by rw [hop]; rfl
 have n13 : (op == 13) = false := by rw [hop]; rfl
 have n14 : (op == 14) = false := by rw [hop]; rfl
 have n15 : (op == 15) = false := by rw [hop]; rfl
 have n30 : (op == 30) = true := by rw [hop]; rfl
 clear hop
 have x0 : w.cell? (ad.add (at_ * 5)) = some (.int .i64 op) := hc0 _ rfl
 have x1 : w.cell? ⟨(ad.add (at_ * 5)).block, (ad.add (at_ * 5)).off + 1, none⟩ = some (.int .i64 a) := hcj 0 _ rfl
 have x2 : w.cell? ⟨(ad.add (at_ * 5)).block, (ad.add (at_ * 5)).off + 2, none⟩ = some (.int .i64 b) := hcj 1 _ rfl
 have x3 : w.cell? ⟨(ad.add (at_ * 5)).block, (ad.add (at_ * 5)).off + 3, none⟩ = some (.int .i64 c) := hcj 2 _ rfl
 have x4 : w.cell? ⟨(ad.add (at_ * 5)).block, (ad.add (at_ * 5)).off + 4, none⟩ = some (.int .i64 line) := hcj 3 _ rfl
 have xb : (ad.add (at_ * 5)).block < w.heap.size := by rw [Rd.block_add]; exact hads
 have e4 : w.cell? ⟨f.wb, 4, none⟩ = some (.slice (some ad) f.n f.c5) := by rw [cell_at h.hw 4 rfl]; simp [hA5]
 have e6 : w.cell? ⟨f.wb, 6, none⟩ = some (.slice (some ⟨f.ob, 0, none⟩) f.n f.n) := cell_at h.hw 6 rfl
 have eo : w.cell? ⟨f.ob, at_, none⟩ = some (.slice A' l.length c') := cell_at o1 at_ (by simpa using hu0)
 have lw : f.wb < w.heap.size := (Array.getElem?_eq_some_iff.1 h.hw).1
 have lo : f.ob < w.heap.size := (Array.getElem?_eq_some_iff.1 o1).1
 have ls : f.sb < w.heap.size := (Array.getElem?_eq_some_iff.1 h.hs).1
 have hn := h.hn
 have hb1 : (at_ : Int) < (f.n : Int) := by omega
 obtain ⟨W1, hW1⟩ : ∃ W1, W1 = (w.alloc (.cells #[.int .i64 op, .int .i64 a, .int .i64 b, .int .i64 c, .int .i64 line] 189)).drew := ⟨_, rfl⟩
 have sz1 : W1.heap.size = w.heap.size + 1 := by rw [hW1]; simp
 have same : Below w.heap.size w W1 := by rw [hW1]; exact ((Below.refl _ _).alloc (Nat.le_refl _) _).drew
 have hWS := h.same (fun k hk => same.block k hk)
 have hok : f.ok vt w.heap.size := ⟨by omega, by omega, by omega, fun he => by have := (h.own.lt _ he.symm).2; omega⟩
 have hK0 : Kept f w W1 vt vt := Kept.same same
 have hL : SlK rdTry (f.ok vt) W1 l (.slice A' l.length c') := hK0.list ⟨A', c', rfl, s1, s2, s3, hC'⟩
 have y0 : W1.cell? ⟨w.heap.size, 0, none⟩ = some (.int .i64 op) := by rw [hW1]; show (w.alloc _).cell? _ = _; exact laid_cell _ _ _ _ rfl
 have y1 : W1.cell? ⟨w.heap.size, 1, none⟩ = some (.int .i64 a) := by rw [hW1]; show (w.alloc _).cell? _ = _; exact laid_cell _ _ _ _ rfl
 have y2 : W1.cell? ⟨w.heap.size, 2, none⟩ = some (.int .i64 b) := by rw [hW1]; show (w.alloc _).cell? _ = _; exact laid_cell _ _ _ _ rfl
 have HCM := Lib.hid (fun (x : Int) (hx : 0 ≤ x) => come_any W1 base (by omega) f vt st hWS x hx _ l hL (by omega))
 have H0 := Lib.hid (And.intro (same.mono hbase) (And.intro hK0 hWS))
 have HL := Lib.hid hL
 have HO := Lib.hid hok
 have hab : Rd.IsInt a ∧ Rd.IsInt b := ⟨hii.2.1, hii.2.2.1⟩
 clear h o1 o2 o3 hu0 hC' hc0 hcj hcode same hWS hK0 hL hok hads hadb hA5 hii
 go_enter Tryd.func150, Tryd.ntmps150
 go_wp2_with fail
 go_region
 rw [← hW1]
 clear hW1 x0 x1 x2 x3 x4 xb e4 e6 eo lo ls
 go_wp2_with fail
 refine (HCM.out b hjmp).mono ?_
 rintro e w2 ⟨rfl, hb, vt2, hk, hws⟩
 have hsz : w.heap.size + 1 ≤ w2.heap.size := by have := hk.size; omega
 have hbase2 : base ≤ w2.heap.size := by omega
 have hbk := hk.block w.heap.size (by omega) HO.out
 have q1 : w2.cell? ⟨w.heap.size, 1, none⟩ = some (.int .i64 a) := by rw [World.cell?_of_block (w := W1) (by exact hbk)]; exact y1
 have q2 : w2.cell? ⟨w.heap.size, 2, none⟩ = some (.int .i64 b) := by rw [World.cell?_of_block (w := W1) (by exact hbk)]; exact y2
 clear hbk
 have hL2 := hk.list HL.out
 have lw2 : f.wb < w2.heap.size := (Array.getElem?_eq_some_iff.1 hws.hw).1
 have ls2 : f.sb < w2.heap.size := (Array.getElem?_eq_some_iff.1 hws.hs).1
 have lo2 : f.ob < w2.heap.size := by obtain ⟨outw, ow1, _⟩ := hws.ho; exact (Array.getElem?_eq_some_iff.1 ow1).1
 have HWS := Lib.hid (fun (w' : World) (h' : Below w2.heap.size w2 w') => hws.same (fun k hk => h'.block k hk))
 have HLL0 := Lib.hid (fun (w' : World) (h' : Below w2.heap.size w2 w') => (Rd.slice rdTry).move (fun k hk _ => h'.block k hk.2) ((Rd.slice rdTry).bound hL2))
 have HLI : Hid (∀ (w' : World) (v : Value), Own rdTry 226 (fun _ => False) w' w2.heap.size v (l ++ [⟨a, b⟩]) → SlK rdTry (f.ok vt2) w' (l ++ [⟨a, b⟩]) v) := Lib.hid (fun w' v h' => (Rd.slice rdTry).mono (fun k hk => by
  rcases hk with hk | hk
  ·exact hk.elim
  ·have := (h'.lt k hk).1
   exact ⟨by omega, by omega, by omega, fun he => by have := (hws.own.lt k he.symm).2; omega⟩) (h'.reads (by decide)))
 have HS : Hid (∀ w' : World, Below w2.heap.size w2 w' → w'.cell? ⟨w.heap.size, 1, none⟩ = some (.int .i64 a) ∧ w'.cell? ⟨w.heap.size, 2, none⟩ = some (.int .i64 b) ∧ Below w2.heap.size w2 w') := Lib.hid (fun w' h' => ⟨(h'.cell (p := ⟨w.heap.size, 1, none⟩) (by simp; omega)).trans q1, (h'.cell (p := ⟨w.heap.size, 2, none⟩) (by simp; omega)).trans q2, h'⟩)
 have HS2 : Hid (∀ w' : World, w'.cell? ⟨w.heap.size, 1, none⟩ = some (.int .i64 a) ∧ w'.cell? ⟨w.heap.size, 2, none⟩ = some (.int .i64 b) ∧ Below w2.heap.size w2 w' → Below w2.heap.size w2 w') := Lib.hid (fun w' h' => h'.2.2)
 have HLL : Hid (∀ w' : World, w'.cell? ⟨w.heap.size, 1, none⟩ = some (.int .i64 a) ∧ w'.cell? ⟨w.heap.size, 2, none⟩ = some (.int .i64 b) ∧ Below w2.heap.size w2 w' → SlK rdTry (fun k => f.ok vt2 k ∧ k < w2.heap.size) w' l (.slice A' l.length c')) := Lib.hid (fun w' h' => HLL0.out w' h'.2.2)
 have R := Lib.hid (And.intro (H0.out.1.trans hb) (H0.out.2.1.trans hk))
 have hblt : w.heap.size < w2.heap.size := by omega
 clear hb hk hws hL2 lw2 ls2 lo2 HLL0
 go_wp2_with fail
 refine wp_region_held_drew (S := fun w' => w'.cell? ⟨w.heap.size, 1, none⟩ = some (.int .i64 a) ∧ w'.cell? ⟨w.heap.size, 2, none⟩ = some (.int .i64 b) ∧ Below w2.heap.size w2 w') (by kernel_rfl) (HS.out _ (Below.refl _ _).drew) (fun hHeld => ?_)
 try dsimp only
 generalize w2.drew = w4 at hHeld ⊢
 refine wpAnyH_take (i := 0) (oi := ?oiz1) (v := ?vvz1) ?hiz1 (by kernel_rfl) (by kernel_rfl) (by kernel_rfl) ?hQz1 (Or.inl ⟨?hwz1, ?hyz1⟩) (by assumption) ?hhz1
 case hiz1 => simp only [List.getElem?_toArray, List.getElem?_cons_succ, List.getElem?_cons_zero]; rfl
 case hwz1 => rfl
 case hyz1 => (intro w hSw; (try dsimp only at hSw); go_simp; (try with_reducible rfl))
 case hQz1 => exact fun _ _ _ h => h
 try simp only [Act.put, List.setIfInBounds_toArray, List.set_cons_zero, List.set_cons_succ]
 refine wpAnyH_take (i := 2) (oi := ?oiz2) (v := ?vvz2) ?hiz2 (by kernel_rfl) (by kernel_rfl) (by kernel_rfl) ?hQz2 (Or.inl ⟨?hwz2, ?hyz2⟩) (by assumption) ?hhz2
 case hiz2 => simp only [List.getElem?_toArray, List.getElem?_cons_succ, List.getElem?_cons_zero]; rfl
 case hwz2 => rfl
 case hyz2 => (intro w hSw; (try dsimp only at hSw); go_simp; (try with_reducible rfl))
 case hQz2 => exact fun _ _ _ h => h
 try simp only [Act.put, List.setIfInBounds_toArray, List.set_cons_zero, List.set_cons_succ]
 refine wpAnyH_take (i := 3) (oi := ?oiz3) (v := ?vvz3) ?hiz3 (by kernel_rfl) (by kernel_rfl) (by kernel_rfl) ?hQz3 (Or.inl ⟨?hwz3, ?hyz3⟩) (by assumption) ?hhz3
 case hiz3 => simp only [List.getElem?_toArray, List.getElem?_cons_succ, List.getElem?_cons_zero]; rfl
 case hwz3 => rfl
 case hyz3 => (intro w hSw; (try dsimp only at hSw); go_simp; (try with_reducible rfl))
 case hQz3 => exact fun _ _ _ h => h
 try simp only [Act.put, List.setIfInBounds_toArray, List.set_cons_zero, List.set_cons_succ]
 refine wpAnyH_take (i := 4) (oi := ?oiz4) (v := ?vvz4) ?hiz4 (by kernel_rfl) (by kernel_rfl) (by kernel_rfl) ?hQz4 (Or.inl ⟨?hwz4, ?hyz4⟩) (by assumption) ?hhz4
 case hiz4 => simp only [List.getElem?_toArray, List.getElem?_cons_succ, List.getElem?_cons_zero]; rfl
 case hwz4 => rfl
 case hyz4 => (intro w hSw; (try dsimp only at hSw); go_simp; (try with_reducible rfl))
 case hQz4 => exact fun _ _ _ h => h
 try simp only [Act.put, List.setIfInBounds_toArray, List.set_cons_zero, List.set_cons_succ]
 refine wpAnyH_take (i := 5) (oi := ?oiz5) (v := ?vvz5) ?hiz5 (by kernel_rfl) (by kernel_rfl) (by kernel_rfl) ?hQz5 (Or.inl ⟨?hwz5, ?hyz5⟩) (by assumption) ?hhz5
 case hiz5 => simp only [List.getElem?_toArray, List.getElem?_cons_succ, List.getElem?_cons_zero]; rfl
 case hwz5 => rfl
 case hyz5 => (intro w hSw; (try dsimp only at hSw); go_simp; (try with_reducible rfl))
 case hQz5 => exact fun _ _ _ h => h
 try simp only [Act.put, List.setIfInBounds_toArray, List.set_cons_zero, List.set_cons_succ]
 refine wpAnyH_take (i := 6) (oi := ?oiz6) (v := ?vvz6) ?hiz6 (by kernel_rfl) (by kernel_rfl) (by kernel_rfl) ?hQz6 (Or.inl ⟨?hwz6, ?hyz6⟩) (by assumption) ?hhz6
 case hiz6 => simp only [List.getElem?_toArray, List.getElem?_cons_succ, List.getElem?_cons_zero]; rfl
 case hwz6 => rfl
 case hyz6 => (intro w hSw; (try dsimp only at hSw); go_simp; (try with_reducible rfl))
 case hQz6 => exact fun _ _ _ h => h
 try simp only [Act.put, List.setIfInBounds_toArray, List.set_cons_zero, List.set_cons_succ]
 refine wpAnyH_ready (rs := [1, 7]) (by kernel_rfl) (by simp) ?_
 refine AllReadyH.cons (o := ?oiz7) ?hiz7 (fun K hK => ?hhz7) ?rest1
 case hiz7 => simp only [List.getElem?_toArray, List.getElem?_cons_succ, List.getElem?_cons_zero]; rfl
 ·skip
  go_simp
  go_at_call 165
  refine (cloneTry_any _ w4 _ l (HLL.out w4 (by assumption)) (by omega)).mono ?_
  rintro e w5 ⟨v1, rfl, hbC, hownC⟩
  go_wp2_with fail
  refine hK.out _ _ ?_ (fun hHeld1 => ?_)
  ·exact HS.out w5 ((HS2.out w4 (by assumption)).trans (hbC.mono (HS2.out w4 (by assumption)).size))
  clear hK K
  try simp only [Act.put, List.setIfInBounds_toArray, List.set_cons_zero, List.set_cons_succ]
  refine wpAnyH_ready (rs := [7]) (by kernel_rfl) (by simp) ?_
  refine AllReadyH.cons (o := ?oiz8) ?hiz8 (fun K hK => ?hhz8) AllReadyH.nil
  case hiz8 => simp only [List.getElem?_toArray, List.getElem?_cons_succ, List.getElem?_cons_zero]; rfl
  go_simp
  obtain ⟨w6, hWw6⟩ : ∃ w6, w6 = w5.alloc (.cells #[.int .i64 a, .int .i64 b] 226) := ⟨_, rfl⟩
  rw [← hWw6]
  have HWw6 := Lib.hid hWw6
  clear hWw6
  refine hK.out _ _ ?_ (fun hHeld2 => ?_)
  ·exact HS.out w6 (by rw [HWw6.out]; exact (HS2.out w5 (by assumption)).alloc (HS2.out w5 (by assumption)).size _)
  clear hK K
  try simp only [Act.put, List.setIfInBounds_toArray, List.set_cons_zero, List.set_cons_succ]
  have hB5 := HS2.out w5 hHeld1
  obtain ⟨v9, w9, hrA, hoA, hbA'⟩ := try_append w6 base w2.heap.size v1 l ⟨a, b⟩ hab w5.heap.size (by rw [HWw6.out]; exact heap_alloc_new _ _) (((hownC.lower (HS2.out w4 hHeld).size).alloc (.cells #[.int .i64 a, .int .i64 b] 226)) |> fun h => by rw [HWw6.out]; exact h) (fun he => by have := (hownC.lt _ he).2; omega) (HS2.out w6 hHeld2).size (by omega)
  have hbA : Below w2.heap.size w2 w9 := (HS2.out w6 hHeld2).trans hbA'
  clear hbA' hB5 hbC hownC
  refine wpAnyH_ready (rs := [8]) (by kernel_rfl) (by simp) ?_
  refine AllReadyH.cons (o := ?oiz9) ?hiz9 (fun K hK => ?hhz9) AllReadyH.nil
  case hiz9 => simp only [List.getElem?_toArray, List.getElem?_cons_succ, List.getElem?_cons_zero]; rfl
  rw [if_pos (by rfl)]
  refine wp_append_eq _ _ _ rfl _ _ rfl rfl hrA ?_
  refine hK.out _ _ ?_ (fun hHeld9 => ?_)
  ·exact HS.out _ hbA
  clear hK K
  try simp only [Act.put, List.setIfInBounds_toArray, List.set_cons_zero, List.set_cons_succ]
  refine wpAnyH_take (i := 9) (oi := ?oiz10) (v := ?vvz10) ?hiz10 (by kernel_rfl) (by kernel_rfl) (by kernel_rfl) ?hQz10 (Or.inl ⟨?hwz10, ?hyz10⟩) (by assumption) ?hhz10
  case hiz10 => simp only [List.getElem?_toArray, List.getElem?_cons_succ, List.getElem?_cons_zero]; rfl
  case hwz10 => rfl
  case hyz10 => (intro w hSw; (try dsimp only at hSw); go_simp; (try with_reducible rfl))
  case hQz10 => exact fun _ _ _ h => h
  try simp only [Act.put, List.setIfInBounds_toArray, List.set_cons_zero, List.set_cons_succ]
  refine wpAnyH_done (by kernel_rfl) ?_ _
  have HC3 := Lib.hid (come_any w9 base (by have := hbA.size; omega) f vt2 _ (HWS.out w9 hbA) ((at_ : Int) + 1) (by omega) v9 (l ++ [⟨a, b⟩]) (HLI.out w9 v9 hoA) (by have := comeF_todo f.n st b l; omega))
  have R3 := Lib.hid (And.intro (R.out.1.trans (hbA.mono hbase2)) (R.out.2.trans (Kept.same hbA)))
  clear hrA hoA hbA hHeld9 hHeld
  go_wp2_with fail
  refine (HC3.out).mono ?_
  rintro e w3 ⟨rfl, hb, vt3, hk, hws⟩
  have R2 := Lib.hid (And.intro (R3.out.1.trans hb) (And.intro (R3.out.2.trans hk) hws))
  clear hb hk hws
  go_wp2_with fail
  go_end0
  exact ⟨rfl, R2.out.1, vt3, R2.out.2.1, R2.out.2.2⟩
 case rest1 =>
  refine AllReadyH.cons (o := ?oiz11) ?hiz11 (fun K hK => ?hhz11) AllReadyH.nil
  case hiz11 => simp only [List.getElem?_toArray, List.getElem?_cons_succ, List.getElem?_cons_zero]; rfl
  go_simp
  obtain ⟨w5, hWw5⟩ : ∃ w5, w5 = w4.alloc (.cells #[.int .i64 a, .int .i64 b] 226) := ⟨_, rfl⟩
  rw [← hWw5]
  have HWw5 := Lib.hid hWw5
  clear hWw5
  refine hK.out _ _ ?_ (fun hHeld1 => ?_)
  ·exact HS.out w5 (by rw [HWw5.out]; exact (HS2.out w4 (by assumption)).alloc (HS2.out w4 (by assumption)).size _)
  clear hK K
  try simp only [Act.put, List.setIfInBounds_toArray, List.set_cons_zero, List.set_cons_succ]
  refine wpAnyH_ready (rs := [1]) (by kernel_rfl) (by simp) ?_
  refine AllReadyH.cons (o := ?oiz12) ?hiz12 (fun K hK => ?hhz12) AllReadyH.nil
  case hiz12 => simp only [List.getElem?_toArray, List.getElem?_cons_succ, List.getElem?_cons_zero]; rfl
  go_simp
  go_at_call 165
  refine (cloneTry_any _ w5 _ l (HLL.out w5 (by assumption)) (by omega)).mono ?_
  rintro e w6 ⟨v1, rfl, hbC, hownC⟩
  go_wp2_with fail
  refine hK.out _ _ ?_ (fun hHeld2 => ?_)
  ·exact HS.out w6 ((HS2.out w5 (by assumption)).trans (hbC.mono (HS2.out w5 (by assumption)).size))
  clear hK K
  try simp only [Act.put, List.setIfInBounds_toArray, List.set_cons_zero, List.set_cons_succ]
  have hB5 := HS2.out w5 hHeld1
  obtain ⟨v9, w9, hrA, hoA, hbA'⟩ := try_append w6 base w2.heap.size v1 l ⟨a, b⟩ hab w4.heap.size (by rw [hbC.block _ (by rw [HWw5.out]; simp), HWw5.out]; exact heap_alloc_new _ _) (hownC.lower hB5.size) (fun he => by have := (hownC.lt _ he).1; rw [HWw5.out] at this; simp at this; omega) (HS2.out w6 hHeld2).size (by omega)
  have hbA : Below w2.heap.size w2 w9 := (HS2.out w6 hHeld2).trans hbA'
  clear hbA' hB5 hbC hownC
  refine wpAnyH_ready (rs := [8]) (by kernel_rfl) (by simp) ?_
  refine AllReadyH.cons (o := ?oiz13) ?hiz13 (fun K hK => ?hhz13) AllReadyH.nil
  case hiz13 => simp only [List.getElem?_toArray, List.getElem?_cons_succ, List.getElem?_cons_zero]; rfl
  rw [if_pos (by rfl)]
  refine wp_append_eq _ _ _ rfl _ _ rfl rfl hrA ?_
  refine hK.out _ _ ?_ (fun hHeld9 => ?_)
  ·exact HS.out _ hbA
  clear hK K
  try simp only [Act.put, List.setIfInBounds_toArray, List.set_cons_zero, List.set_cons_succ]
  refine wpAnyH_take (i := 9) (oi := ?oiz14) (v := ?vvz14) ?hiz14 (by kernel_rfl) (by kernel_rfl) (by kernel_rfl) ?hQz14 (Or.inl ⟨?hwz14, ?hyz14⟩) (by assumption) ?hhz14
  case hiz14 => simp only [List.getElem?_toArray, List.getElem?_cons_succ, List.getElem?_cons_zero]; rfl
  case hwz14 => rfl
  case hyz14 => (intro w hSw; (try dsimp only at hSw); go_simp; (try with_reducible rfl))
  case hQz14 => exact fun _ _ _ h => h
  try simp only [Act.put, List.setIfInBounds_toArray, List.set_cons_zero, List.set_cons_succ]
  refine wpAnyH_done (by kernel_rfl) ?_ _
  have HC3 := Lib.hid (come_any w9 base (by have := hbA.size; omega) f vt2 _ (HWS.out w9 hbA) ((at_ : Int) + 1) (by omega) v9 (l ++ [⟨a, b⟩]) (HLI.out w9 v9 hoA) (by have := comeF_todo f.n st b l; omega))
  have R3 := Lib.hid (And.intro (R.out.1.trans (hbA.mono hbase2)) (R.out.2.trans (Kept.same hbA)))
  clear hrA hoA hbA hHeld9 hHeld
  go_wp2_with fail
  refine (HC3.out).mono ?_
  rintro e w3 ⟨rfl, hb, vt3, hk, hws⟩
  have R2 := Lib.hid (And.intro (R3.out.1.trans hb) (And.intro (R3.out.2.trans hk) hws))
  clear hb hk hws
  go_wp2_with fail
  go_end0
  exact ⟨rfl, R2.out.1, vt3, R2.out.2.1, R2.out.2.2⟩
end Go.Proofs.YtefkifdhjabdiaaDoor
namespace Go.Proofs.YtefkifdhjabdiaaDoor
set_option linter.unusedVariables false
set_option linter.unusedSimpArgs false
open Go.RowKit

/-- The ways out of an order lead nowhere below 0. -/
def jumpsOk (code : List Ord) : Prop := ∀ i ∈ code, ((i.op = 13 ∨ i.op = 14) → 0 ≤ i.a) ∧ ((i.op = 15 ∨ i.op = 30) → 0 ≤ i.b)

theorem from_any (w : World) (base : Nat) (hbase : base ≤ w.heap.size) (f : Wf) (vt : Value) (st : St) (h : WS w base f vt st) (hlen : st.todo.length ≤ 900) (at_ : Nat) (hi : at_ < f.n) (code : List Ord) (hcode : rdOrd.CB base w f.A5 f.n code) (hj : jumpsOk code) (h20 : ∀ l ∈ st.out, l.length ≤ 20) :
  Calls Tryd.prog 150 #[.pointer (some ⟨f.wb, 0, none⟩), .int .i64 at_] w fun e w' => e = .returned (.tuple #[]) ∧ Below base w w' ∧ ∃ vt', Kept f w w' vt vt' ∧ WS w' base f vt' (fromF f.n code st at_) := by
 obtain ⟨i, hci⟩ : ∃ i, code[at_]? = some i := ⟨_, List.getElem?_eq_getElem (by have := hcode.1; omega)⟩
 obtain ⟨l, hm⟩ : ∃ l, st.out[at_]? = some l := ⟨_, List.getElem?_eq_getElem (by have := h.lo; omega)⟩
 have hl := h20 l (List.mem_of_getElem? hm)
 obtain ⟨j1, j2⟩ := hj i (List.mem_of_getElem? hci)
 unfold fromF
 rw [hci, hm]
 simp only
 by_cases o1 : i.op = 28
 ·rw [if_pos (.inl o1)]; exact from_28 w base hbase f vt st h hlen at_ hi code hcode i hci l hm hl o1
 by_cases o2 : i.op = 29
 ·rw [if_pos (.inr o2)]; exact from_29 w base hbase f vt st h hlen at_ hi code hcode i hci l hm hl o2
 rw [if_neg (by omega)]
 by_cases o3 : i.op = 13
 ·rw [if_pos (.inl o3)]; exact from_13 w base hbase f vt st h hlen at_ hi code hcode i hci l hm hl o3 (j1 (.inl o3))
 by_cases o4 : i.op = 14
 ·rw [if_pos (.inr o4)]; exact from_14 w base hbase f vt st h hlen at_ hi code hcode i hci l hm hl o4 (j1 (.inr o4))
 rw [if_neg (by omega)]
 by_cases o5 : i.op = 15
 ·rw [if_pos o5]; exact from_15 w base hbase f vt st h hlen at_ hi code hcode i hci l hm hl o5 (j2 (.inl o5))
 rw [if_neg o5]
 by_cases o6 : i.op = 30
 ·rw [if_pos o6]; exact from_30 w base hbase f vt st h hlen at_ hi code hcode i hci l hm hl o6 (j2 (.inr o6))
 rw [if_neg o6]
 by_cases o7 : i.op = 31
 ·rw [if_pos o7]
  by_cases hl0 : l = []
  ·rw [if_pos hl0]; exact from_31a w base hbase f vt st h hlen at_ hi code hcode i hci l hm hl o7 hl0
  ·rw [if_neg hl0]; exact from_31b w base hbase f vt st h hlen at_ hi code hcode i hci l hm hl o7 hl0
 rw [if_neg o7]
 exact from_else w base hbase f vt st h hlen at_ hi code hcode i hci l hm hl ⟨by simpa using o1, by simpa using o2, by simpa using o3, by simpa using o4, by simpa using o5, by simpa using o6, by simpa using o7⟩

/-! ### the plain state -/
structure St.Ok (n : Nat) (st : St) : Prop where
 ls : st.seen.length = n
 lo : st.out.length = n
 ct : st.todo.length + st.seen.count false ≤ n
 td : ∀ x ∈ st.todo, 0 ≤ x ∧ x < n
 l20 : ∀ l ∈ st.out, l.length ≤ 20
/-- What still may be done. -/
def St.left (st : St) : Nat := st.todo.length + 2 * st.seen.count false
theorem count_set_true {l : List Bool} {i : Nat} (h : l[i]? = some false) : (l.set i true).count false + 1 = l.count false := by
 induction l generalizing i with
 | nil => simp at h
 | cons b t ih =>
  cases i with
  | zero => simp at h; subst h; simp
  | succ i =>
   simp only [List.getElem?_cons_succ] at h
   have := ih h
   cases b <;> simp <;> omega
theorem comeF_ok {n : Nat} {st : St} (h : st.Ok n) (at_ : Int) (h0 : 0 ≤ at_) (l : List Tr) : (comeF n st at_ l).Ok n ∧ (comeF n st at_ l).left ≤ st.left := by
 unfold comeF
 split
 ·exact ⟨⟨h.ls, h.lo, h.ct, h.td, h.l20⟩, Nat.le_refl _⟩
 ·rename_i hb
  split
  ·rename_i hs
   have hc := count_set_true hs
   refine ⟨⟨by simpa using h.ls, by simpa using h.lo, ?_, ?_, ?_⟩, ?_⟩
   ·have := h.ct
    simp only [List.length_append, List.length_singleton]
    omega
   ·intro x hx
    simp only [List.mem_append, List.mem_singleton] at hx
    rcases hx with hx | hx
    ·exact h.td x hx
    ·subst hx; exact ⟨h0, by omega⟩
   ·intro m hm
    rcases List.mem_or_eq_of_mem_set hm with hm | hm
    ·exact h.l20 m hm
    ·subst hm; omega
   ·simp only [St.left, List.length_append, List.length_singleton]
    omega
  ·split
   ·exact ⟨h, Nat.le_refl _⟩
   ·exact ⟨⟨h.ls, h.lo, h.ct, h.td, h.l20⟩, Nat.le_refl _⟩
theorem fromF_ok {n : Nat} {code : List Ord} {st : St} (h : st.Ok n) (hj : jumpsOk code) (at_ : Nat) : (fromF n code st at_).Ok n ∧ (fromF n code st at_).left ≤ st.left := by
 unfold fromF
 split
 ·rename_i i l hci hm
  obtain ⟨j1, j2⟩ := hj i (List.mem_of_getElem? hci)
  have two : ∀ x y : Int, 0 ≤ x → 0 ≤ y → ∀ l l', (comeF n (comeF n st x l) y l').Ok n ∧ (comeF n (comeF n st x l) y l').left ≤ st.left := fun x y hx hy l l' =>
   ⟨(comeF_ok (comeF_ok h x hx l).1 y hy l').1, Nat.le_trans (comeF_ok (comeF_ok h x hx l).1 y hy l').2 (comeF_ok h x hx l).2⟩
  split
  ·exact ⟨h, Nat.le_refl _⟩
  ·split
   ·rename_i ho; exact comeF_ok h _ (j1 ho) _
   ·split
    ·rename_i ho; exact two _ _ (j2 (.inl ho)) (by omega) _ _
    ·split
     ·rename_i ho; exact two _ _ (j2 (.inr ho)) (by omega) _ _
     ·split
      ·split
       ·exact ⟨⟨h.ls, h.lo, h.ct, h.td, h.l20⟩, Nat.le_refl _⟩
       ·exact comeF_ok h _ (by omega) _
      ·exact comeF_ok h _ (by omega) _
 ·exact ⟨h, Nat.le_refl _⟩

/-- One turn: the last place that is to be done is done. -/
def turnF (n : Nat) (code : List Ord) (st : St) : St := fromF n code { st with todo := st.todo.dropLast } ((st.todo.getLast?.getD 0).toNat)
def runF (n : Nat) (code : List Ord) : Nat → St → St
 | 0, st => st
 | k + 1, st => if st.todo = [] ∨ st.bad = true then st else runF n code k (turnF n code st)
theorem runF_done {n : Nat} {code : List Ord} {st : St} (h : st.todo = [] ∨ st.bad = true) (k : Nat) : runF n code k st = st := by
 cases k with
 | zero => rfl
 | succ k => simp only [runF, if_pos h]
theorem turnF_ok {n : Nat} {code : List Ord} {st : St} (h : st.Ok n) (hj : jumpsOk code) (hn : st.todo ≠ []) : (turnF n code st).Ok n ∧ (turnF n code st).left < st.left := by
 have h1 : ({ st with todo := st.todo.dropLast } : St).Ok n := ⟨h.ls, h.lo, by have := h.ct; simp only [List.length_dropLast]; omega, fun x hx => h.td x ((List.dropLast_sublist st.todo).subset hx), h.l20⟩
 have h2 := fromF_ok h1 hj (st.todo.getLast?.getD 0).toNat
 refine ⟨h2.1, Nat.lt_of_le_of_lt h2.2 ?_⟩
 have : 0 < st.todo.length := List.length_pos_iff.2 hn
 simp only [St.left, List.length_dropLast]
 omega
def init (n : Nat) : St := ⟨List.replicate n false, List.replicate n [], [], false⟩
/-- All tries of a function, whether each order is come to, and whether it is right. -/
def triesF (code : List Ord) : St := runF code.length code (2 * code.length + 2) (comeF code.length (init code.length) 0 [])
end Go.Proofs.YtefkifdhjabdiaaDoor
namespace Go.Proofs.YtefkifdhjabdiaaDoor
set_option linter.unusedVariables false
set_option linter.unusedSimpArgs false
open Go.RowKit

theorem Own.pop {e : TypeId} {w : World} {base : Nat} {A : Option Addr} {c : Nat} {xs : List Int} (h : Own Rd.int e (fun _ => False) w base (.slice A xs.length c) xs) (hx : xs ≠ []) : Own Rd.int e (fun _ => False) w base (.slice A (xs.length - 1) c) xs.dropLast := by
 obtain ⟨cells, ⟨h0, h1⟩, h2⟩ := h.ex
 have hp : 0 < xs.length := List.length_pos_iff.2 hx
 have hsz : Rd.int.sz = 1 := rfl
 rw [hsz, Nat.mul_one] at h0
 rcases h1 with ⟨h1, h1'⟩ | ⟨g, cap, cur, hv, hb, hh, hc, hm, hs, ht⟩
 ·omega
 ·injection hv with v1 v2 v3
  subst v1 v3
  refine ⟨cells.take (xs.length - 1), ⟨?_, .inr ⟨g, c, cur, by rw [List.length_dropLast], hb, hh, by rw [List.length_dropLast]; omega, hm, hs, ?_⟩⟩, fun i x hi => ?_⟩
  ·rw [List.length_take, h0, List.length_dropLast, hsz]; omega
  ·rw [List.length_dropLast, hsz, Nat.mul_one, ← ht, hsz, Nat.mul_one, List.take_take]
   congr 1
   omega
  ·have hi' : i < xs.length - 1 := by have := (List.getElem?_eq_some_iff.1 hi).1; rwa [List.length_dropLast] at this
   rw [List.getElem?_dropLast, if_pos hi'] at hi
   have := h2 i x hi
   obtain ⟨e1, e2⟩ := this
   refine ⟨?_, e2⟩
   rw [← e1]
   simp only [hsz, Nat.mul_one, List.take_one, List.head?_drop]
   rw [List.getElem?_take, if_pos hi']
theorem WS.pop {w : World} {base : Nat} {f : Wf} {A : Option Addr} {c : Nat} {st : St} (h : WS w base f (.slice A st.todo.length c) st) (hx : st.todo ≠ []) :
  WS (w.setCell ⟨f.wb, 7, none⟩ (.slice A (st.todo.length - 1) c)) base f (.slice A (st.todo.length - 1) c) { st with todo := st.todo.dropLast } := by
 obtain ⟨n1, n2, n3, b1, b2, b3⟩ := h.ne
 obtain ⟨t1, t2, t3⟩ := h.tb
 have hob : (Value.slice A (st.todo.length - 1) c).ownBlock = (Value.slice A st.todo.length c).ownBlock := by cases A <;> rfl
 have K : ∀ k, k ≠ f.wb → (w.setCell ⟨f.wb, 7, none⟩ (.slice A (st.todo.length - 1) c)).heap[k]? = w.heap[k]? := fun k hk => Below.heap_setCell _ _ _ _ hk
 obtain ⟨outv, h1, h2, h3⟩ := h.ho
 have hq : ∀ k, (False ∨ (Value.slice A (st.todo.length - 1) c).ownBlock = some k) → k ≠ f.wb := by
  rw [hob]
  rintro k (hk | hk) rfl
  ·exact hk
  ·exact t1 hk
 refine ⟨?_, (K _ (Ne.symm n1)).trans h.hs, ⟨outv, (K _ (Ne.symm n3)).trans h1, h2, fun i v l hv hl => (Rd.slice rdTry).mono (fun k hk => ⟨hk.1, hk.2.1, hk.2.2.1, by rw [hob]; exact hk.2.2.2⟩) ((Rd.slice rdTry).move (fun k hk _ => K k hk.1) (h3 i v l hv hl))⟩, (h.own.pop hx).move (fun k hk _ => K k (hq k hk)), h.ne, by rw [hob]; exact h.tb, h.ls, h.lo, h.hn⟩
 rw [block_set h.hw 7]
 rfl
end Go.Proofs.YtefkifdhjabdiaaDoor
namespace Go.Proofs.YtefkifdhjabdiaaDoor
set_option linter.unusedVariables false
set_option linter.unusedSimpArgs false
open Go.RowKit

theorem madeCells_one (z : Value) (n : Nat) (hz : z.cells = #[z]) : madeCells z.cells (n * 1) = Array.replicate n z := by
 apply Array.toList_inj.1
 rw [hz, toList_madeCells_one, Nat.mul_one, Array.toList_replicate]
theorem make_seen (n : Nat) (hn : n ≤ 600) (w : World) : (Instr.makeSlice 108 (.int .i64 (n : Int)) (.int .i64 (n : Int))).run Tryd.prog w = .ok (.slice (some ⟨w.heap.size, 0, none⟩) n n) (w.alloc (.cells (Array.replicate n (Value.bool false)) 4)) := by
 obtain ⟨i, hi, hz, hs, hb⟩ : ∃ i, Tryd.prog.info? 4 = some i ∧ i.zero = some (.bool false) ∧ i.size = 1 ∧ i.bytes = 1 := by
  have h : (Tryd.prog.info? 4).map (fun i => (i.zero, i.size, i.bytes)) = some (some (Value.bool false), 1, 1) := by kernel_rfl
  obtain ⟨i, hi, he⟩ := Option.map_eq_some_iff.1 h
  simp only [Prod.mk.injEq] at he
  exact ⟨i, hi, he.1, he.2.1, he.2.2⟩
 have h := run_make (P := Tryd.prog) w 108 4 i (.bool false) Tryd.underlying108 hi hz .i64 .i64 (n : Int) (n : Int) (by omega) (by omega) (by rw [hb]; omega) (by omega)
 rw [Int.toNat_natCast] at h
 rw [h, hs, madeCells_one _ _ rfl]
theorem make_out (n : Nat) (hn : n ≤ 600) (w : World) : (Instr.makeSlice 191 (.int .i64 (n : Int)) (.int .i64 (n : Int))).run Tryd.prog w = .ok (.slice (some ⟨w.heap.size, 0, none⟩) n n) (w.alloc (.cells (Array.replicate n (Value.slice none 0 0)) 223)) := by
 obtain ⟨i, hi, hz, hs, hb⟩ : ∃ i, Tryd.prog.info? 223 = some i ∧ i.zero = some (.slice none 0 0) ∧ i.size = 1 ∧ i.bytes = 24 := by
  have h : (Tryd.prog.info? 223).map (fun i => (i.zero, i.size, i.bytes)) = some (some (Value.slice none 0 0), 1, 24) := by kernel_rfl
  obtain ⟨i, hi, he⟩ := Option.map_eq_some_iff.1 h
  simp only [Prod.mk.injEq] at he
  exact ⟨i, hi, he.1, he.2.1, he.2.2⟩
 have h := run_make (P := Tryd.prog) w 191 223 i (.slice none 0 0) Tryd.underlying191 hi hz .i64 .i64 (n : Int) (n : Int) (by omega) (by omega) (by rw [hb]; omega) (by omega)
 rw [Int.toNat_natCast] at h
 rw [h, hs, madeCells_one _ _ rfl]

/-! ### the loop -/
/-- How much is still to be done, read off memory. -/
def leftW (f : Wf) (w : World) : Nat :=
 (match w.cell? ⟨f.wb, 7, none⟩ with | some (.slice _ n _) => n | _ => 0) + 2 * (match w.heap[f.sb]? with | some (.cells cs _ _) => cs.toList.countP (fun v => match v with | .bool false => true | _ => false) | _ => 0)
theorem WS.left {w : World} {base : Nat} {f : Wf} {vt : Value} {st : St} (h : WS w base f vt st) : leftW f w = st.left := by
 obtain ⟨A, c, hv, _⟩ := h.own.reads (by decide)
 injection hv with hv
 subst hv
 have e7 := cell_at h.hw 7 rfl
 have e7' : w.cell? ⟨f.wb, 7, none⟩ = some (.slice A st.todo.length c) := e7
 unfold leftW St.left
 rw [e7', h.hs]
 simp only
 congr 2
 rw [List.count, List.countP_map]
 congr 1
 funext b
 cases b <;> rfl
theorem init_ok (n : Nat) : (init n).Ok n := ⟨by simp [init], by simp [init], by simp [init], fun x hx => by simp [init] at hx, fun l hl => by simp [init] at hl; rw [hl.2]; simp⟩
/-- The walk as it begins. -/
theorem WS.init (w : World) (base : Nat) (f : Wf) (hn : f.n ≤ 600) (hne : f.wb ≠ f.sb ∧ f.sb ≠ f.ob ∧ f.wb ≠ f.ob ∧ base ≤ f.wb ∧ base ≤ f.sb ∧ base ≤ f.ob)
  (hw : w.heap[f.wb]? = some (.cells (f.cells (.slice none 0 0) false) 210 (0, 0))) (hs : w.heap[f.sb]? = some (.cells (Array.replicate f.n (Value.bool false)) 4 (0, 0))) (ho : w.heap[f.ob]? = some (.cells (Array.replicate f.n (Value.slice none 0 0)) 223 (0, 0))) :
  WS w base f (.slice none 0 0) (init f.n) :=
 ⟨hw, by rw [hs]; simp [Go.Proofs.YtefkifdhjabdiaaDoor.init], ⟨List.replicate f.n (.slice none 0 0), by rw [ho]; simp, by simp, fun i v l hv hl => by
  obtain ⟨h1, rfl⟩ := by simpa [List.getElem?_replicate] using hv
  obtain ⟨h2, rfl⟩ := by simpa [Go.Proofs.YtefkifdhjabdiaaDoor.init, List.getElem?_replicate] using hl
  exact ⟨none, 0, rfl, Nat.le_refl _, by omega, fun _ => rfl, Rd.C.nil _ _ _ _⟩⟩, Own.nil _ _ _ _ _, hne, ⟨by simp [Value.ownBlock], by simp [Value.ownBlock], by simp [Value.ownBlock]⟩, by simp [Go.Proofs.YtefkifdhjabdiaaDoor.init], by simp [Go.Proofs.YtefkifdhjabdiaaDoor.init], hn⟩
theorem four (w : World) (a b c d : Obj) : ((((w.alloc a).alloc b).alloc c).alloc d).drew.heap[w.heap.size + 1]? = some b ∧ ((((w.alloc a).alloc b).alloc c).alloc d).drew.heap[w.heap.size + 1 + 1]? = some c ∧ ((((w.alloc a).alloc b).alloc c).alloc d).drew.heap[w.heap.size + 1 + 1 + 1]? = some d ∧ Below w.heap.size w ((((w.alloc a).alloc b).alloc c).alloc d).drew := by
 refine ⟨?_, ?_, ?_, ?_⟩
 ·show ((((w.alloc a).alloc b).alloc c).alloc d).heap[_]? = _
  rw [Below.heap_alloc _ _ _ (by simp), Below.heap_alloc _ _ _ (by simp)]
  have := heap_alloc_new (w.alloc a) b
  simpa using this
 ·show ((((w.alloc a).alloc b).alloc c).alloc d).heap[_]? = _
  rw [Below.heap_alloc _ _ _ (by simp)]
  have := heap_alloc_new ((w.alloc a).alloc b) c
  simpa using this
 ·show ((((w.alloc a).alloc b).alloc c).alloc d).heap[_]? = _
  have := heap_alloc_new (((w.alloc a).alloc b).alloc c) d
  simpa using this
 ·exact (((((Below.refl _ _).alloc (Nat.le_refl _) _).alloc (by simp) _).alloc (by simp; omega) _).alloc (by simp; omega) _).drew

set_option maxRecDepth 100000 in
set_option maxHeartbeats 8000000 in
theorem tries_any (w : World) (ok : Nat → Prop) (fn : Fn) (v1 : Value) (A : Option Addr) (c : Nat) (hcode : rdOrd.C ok w A fn.code.length fn.code) (hj : jumpsOk fn.code) (hn : fn.code.length ≤ 600) :
  Calls Tryd.prog 122 #[.agg #[.int .i64 fn.params, .int .i64 fn.regs, .bool fn.gen, v1, .slice A fn.code.length c]] w fun e w' => ∃ vo vs, e = .returned (.tuple #[vo, vs, .bool (!(triesF fn.code).bad)]) ∧ (vo.oneCell' = true ∧ vs.oneCell' = true) ∧ Below w.heap.size w w' := by
 have HC : Hid (∀ w', Below w.heap.size w w' → rdOrd.CB w.heap.size w' A fn.code.length fn.code) := Lib.hid (fun w' hb => ((hcode.bound).mono (fun k hk => hk.2)).below hb)
 have HJ := Lib.hid hj
 have mk1 := make_seen fn.code.length hn
 have mk2 := make_out fn.code.length hn
 have HR := Lib.hid (show triesF fn.code = runF fn.code.length fn.code (2 * fn.code.length + 2) (comeF fn.code.length (init fn.code.length) 0 []) from rfl)
 generalize triesF fn.code = R at HR ⊢
 generalize hcl : fn.code.length = n at *
 clear hcode hj
 go_enter Tryd.func122, Tryd.ntmps122
 go_wp2_with fail
 go_region
 ·obtain ⟨W, hW⟩ : ∃ W, W = ((((w.alloc (.cells #[.int .i64 fn.params, .int .i64 fn.regs, .bool fn.gen, v1, .slice A n c] 84)).alloc (.cells (Array.replicate n (Value.bool false)) 4)).alloc (.cells (Array.replicate n (Value.slice none 0 0)) 223)).alloc (.cells #[.int .i64 fn.params, .int .i64 fn.regs, .bool fn.gen, v1, .slice A n c, .slice (some ⟨w.heap.size + 1, 0, none⟩) n n, .slice (some ⟨w.heap.size + 1 + 1, 0, none⟩) n n, .slice none 0 0, .bool false] 210)).drew := ⟨_, rfl⟩
  rw [← hW]
  obtain ⟨q1, q2, q3, qB⟩ := four w (.cells #[.int .i64 fn.params, .int .i64 fn.regs, .bool fn.gen, v1, .slice A n c] 84) (.cells (Array.replicate n (Value.bool false)) 4) (.cells (Array.replicate n (Value.slice none 0 0)) 223) (.cells #[.int .i64 fn.params, .int .i64 fn.regs, .bool fn.gen, v1, .slice A n c, .slice (some ⟨w.heap.size + 1, 0, none⟩) n n, .slice (some ⟨w.heap.size + 1 + 1, 0, none⟩) n n, .slice none 0 0, .bool false] 210)
  rw [← hW] at q1 q2 q3 qB
  have hWS : WS W w.heap.size ⟨n, w.heap.size + 1 + 1 + 1, w.heap.size + 1, w.heap.size + 1 + 1, fn.params, fn.regs, fn.gen, v1, A, c⟩ (.slice none 0 0) (init n) := WS.init W w.heap.size ⟨n, w.heap.size + 1 + 1 + 1, w.heap.size + 1, w.heap.size + 1 + 1, fn.params, fn.regs, fn.gen, v1, A, c⟩ hn (by simp; omega) q3 q1 q2
  have hsz := qB.size
  clear hW q1 q2 q3 mk1 mk2
  generalize w.heap.size + 1 + 1 + 1 = wb at hWS ⊢
  generalize w.heap.size + 1 + 1 = ob at hWS ⊢
  generalize w.heap.size + 1 = sb at hWS ⊢
  obtain ⟨f, hf⟩ : ∃ f : Wf, f = ⟨n, wb, sb, ob, fn.params, fn.regs, fn.gen, v1, A, c⟩ := ⟨_, rfl⟩
  rw [← hf] at hWS
  have f1 : f.wb = wb := by rw [hf]
  have f2 : f.n = n := by rw [hf]
  have f3 : f.A5 = A := by rw [hf]
  have HCM := come_any W w.heap.size hsz f _ _ hWS 0 (by omega) (.slice none 0 0) [] ⟨none, 0, rfl, Nat.le_refl _, by omega, fun _ => rfl, Rd.C.nil _ _ _ _⟩ (by simp [init])
  rw [f1, f2] at HCM
  have ok0 := comeF_ok (init_ok n) 0 (by omega) []
  have lf0 : (init n).left = 2 * n := by simp [init, St.left]
  obtain ⟨st0, hst0⟩ : ∃ st0, st0 = comeF n (init n) 0 [] := ⟨_, rfl⟩
  rw [← hst0] at HCM ok0 HR
  have HST := Lib.hid ok0
  have HCM' := Lib.hid HCM
  have HF := Lib.hid hf
  have HB := Lib.hid qB
  clear hWS HCM ok0 hst0 hf qB hsz
  go_wp2_with fail
  refine (HCM'.out).mono ?_
  rintro e w2 ⟨rfl, hb, vt2, hk, hws⟩
  have hI : WS w2 w.heap.size f vt2 st0 ∧ Below w.heap.size w w2 := ⟨hws, HB.out.trans hb⟩
  have HI := Lib.hid hI
  clear hb hk hws hI HCM'
  go_wp2_with fail
  go_loopw [] (fun wr => ∃ (vt : Value) (st : St) (k : Nat), Hid (WS wr w.heap.size f vt st) ∧ Hid (Below w.heap.size w wr) ∧ Hid (st.Ok n) ∧ Hid (st.left + k ≤ 2 * n) ∧ Hid (∀ m, runF n fn.code (m + k) st0 = runF n fn.code m st)) (fun wr => leftW f wr)
  case atStart => exact ⟨vt2, st0, 0, Lib.hid HI.out.1, Lib.hid HI.out.2, Lib.hid HST.out.1, Lib.hid (by have := HST.out.2; rw [lf0] at this; simpa using this), Lib.hid (fun m => rfl)⟩
  case round =>
   obtain ⟨vt, st, k, HW, HBl, HO, HLe, HRu⟩ := hrel
   obtain ⟨A', c', hvt⟩ : ∃ A' c', vt = .slice A' st.todo.length c' := by
    obtain ⟨A', c', hv, _⟩ := HW.out.own.reads (by decide)
    injection hv with hv
    exact ⟨_, _, hv⟩
   subst hvt
   have e5 : wr.cell? ⟨f.wb, 5, none⟩ = some (.slice (some ⟨f.sb, 0, none⟩) f.n f.n) := cell_at HW.out.hw 5 rfl
   have e6 : wr.cell? ⟨f.wb, 6, none⟩ = some (.slice (some ⟨f.ob, 0, none⟩) f.n f.n) := cell_at HW.out.hw 6 rfl
   have e7 : wr.cell? ⟨f.wb, 7, none⟩ = some (.slice A' st.todo.length c') := cell_at HW.out.hw 7 rfl
   have e8 : wr.cell? ⟨f.wb, 8, none⟩ = some (.bool st.bad) := cell_at HW.out.hw 8 rfl
   have fr : wr.frozen? ⟨f.wb, 7, none⟩ = false := free_at HW.out.hw 7
   have hct : st.todo.length ≤ n := by have := HO.out.ct; omega
   rw [f1] at e5 e6 e7 e8 fr
   have fin : (st.todo = [] ∨ st.bad = true) → R = st := fun hd => by
    have h1 := HRu.out (2 * n + 2 - k)
    have h2 := HLe.out
    rw [show 2 * n + 2 - k + k = 2 * n + 2 by omega, ← HR.out, runF_done hd] at h1
    exact h1
   have HFin := Lib.hid fin
   clear fin
   by_cases ht : st.todo = []
   ·have hR := HFin.out (.inl ht)
    have hl0 : st.todo.length = 0 := by rw [ht]; rfl
    rw [hl0] at e7
    have HRR := Lib.hid hR
    clear hR ht hl0
    go_wp2_with fail
    go_quiet (fail)
    go_wp2_with fail
    refine bodyPost_ret (v := .tuple #[.slice (some ⟨f.ob, 0, none⟩) f.n f.n, .slice (some ⟨f.sb, 0, none⟩) f.n f.n, .bool (!st.bad)]) (by simp [results, Tryd.results122, go_sem, f2]) rfl ⟨_, _, by rw [HRR.out], ⟨rfl, rfl⟩, ?_⟩
    exact ⟨HBl.out.os, HBl.out.tape, HBl.out.output, HBl.out.size, HBl.out.block⟩
   ·obtain ⟨m, hm⟩ : ∃ m, st.todo.length = m + 1 := ⟨st.todo.length - 1, by have := List.length_pos_iff.2 ht; omega⟩
    cases hbd : st.bad with
    | true =>
     have HRR := Lib.hid (HFin.out (.inr hbd))
     rw [hm] at e7
     rw [hbd] at e8
     go_wp2_with fail
     go_quiet (fail)
     go_wp2_with fail
     refine bodyPost_ret (v := .tuple #[.slice (some ⟨f.ob, 0, none⟩) f.n f.n, .slice (some ⟨f.sb, 0, none⟩) f.n f.n, .bool false]) (by simp [results, Tryd.results122, go_sem, f2]) rfl ⟨_, _, by rw [HRR.out, hbd]; rfl, ⟨rfl, rfl⟩, ?_⟩
     exact ⟨HBl.out.os, HBl.out.tape, HBl.out.output, HBl.out.size, HBl.out.block⟩
    | false =>
     obtain ⟨x, hx⟩ : ∃ x, st.todo[m]? = some x := ⟨_, List.getElem?_eq_getElem (by omega)⟩
     obtain ⟨A2, c2, hv2, _, _, _, hC2⟩ := HW.out.own.reads (by decide)
     injection hv2 with hv2
     injection hv2 with hv2 _ hv3
     subst hv2 hv3
     obtain ⟨ad, cs, rfl, _, _, ⟨rfl, hxi⟩, hc0, _⟩ := hC2.elem m x hx
     have ex : wr.cell? (ad.add m) = some (.int .i64 x) := by have := hc0 _ rfl; simpa [Rd.int] using this
     rw [hm] at e7
     rw [hbd] at e8
     clear hc0 hC2
     have htd := HO.out.td x (List.mem_of_getElem? hx)
     obtain ⟨i, rfl⟩ := Int.eq_ofNat_of_zero_le htd.1
     have hgl : st.todo.getLast?.getD 0 = (i : Int) := by rw [List.getLast?_eq_getElem?, hm, Nat.add_sub_cancel, hx]; rfl
     have htf : turnF n fn.code st = fromF n fn.code { st with todo := st.todo.dropLast } i := by unfold turnF; rw [hgl, Int.toNat_natCast]
     have HP : Hid (∀ q, Below w.heap.size wr ((wr.drewN q).setCell ⟨wb, 7, none⟩ (.slice (some ad) m c')) ∧ WS ((wr.drewN q).setCell ⟨wb, 7, none⟩ (.slice (some ad) m c')) w.heap.size f (.slice (some ad) m c') { st with todo := st.todo.dropLast }) := Lib.hid (fun q => by
      have h0 := HW.out.same (w1 := wr.drewN q) (fun _ _ => rfl)
      have h1 := h0.pop ht
      have h2 := h0.below 7 (.slice (some ad) m c')
      rw [hm, Nat.add_sub_cancel, f1] at h1
      rw [f1] at h2
      exact ⟨⟨h2.os, h2.tape, h2.output, h2.size, h2.block⟩, h1⟩)
     have HT := Lib.hid (And.intro htf (And.intro (turnF_ok HO.out HJ.out ht) (show runF n fn.code 1 st = turnF n fn.code st by simp [runF, ht, hbd])))
     have HOld := Lib.hid (And.intro HW.out.left (And.intro ht hbd))
     have HI2 := Lib.hid htd.2
     clear hgl htf htd hx hxi
     go_wp2_with fail
     go_quiet (fail)
     go_wp2_with fail
     go_region
     obtain ⟨W3, hW3⟩ : ∃ W3, W3 = (wr.drewN (nq + 1)).setCell ⟨wb, 7, none⟩ (.slice (some ad) m c') := ⟨_, rfl⟩
     rw [← hW3]
     obtain ⟨pB, pW⟩ := HP.out (nq + 1)
     rw [← hW3] at pB pW
     have pB2 := HBl.out.trans pB
     have HFR : Hid (Calls Tryd.prog 150 #[.pointer (some ⟨wb, 0, none⟩), .int .i64 i] W3 fun e w' => e = .returned (.tuple #[]) ∧ Below w.heap.size W3 w' ∧ ∃ vt', Kept f W3 w' (.slice (some ad) m c') vt' ∧ WS w' w.heap.size f vt' (fromF n fn.code { st with todo := st.todo.dropLast } i)) := Lib.hid (by
      have := from_any W3 w.heap.size pB2.size f _ _ pW (by have := HO.out.ct; simp only [List.length_dropLast]; omega) i (by rw [f2]; have := HI2.out; omega) fn.code (by rw [f3, f2]; exact HC.out _ pB2) HJ.out HO.out.l20
      rwa [f1, f2] at this)
     have HB3 := Lib.hid pB2
     clear pB pW pB2 hW3 e5 e6 e7 e8 fr ex
     go_wp2_with fail
     refine (HFR.out).mono ?_
     rintro e w4 ⟨rfl, hb, vt3, hk, hws⟩
     have HN := Lib.hid (And.intro hws (HB3.out.trans hb))
     clear hb hk hws
     go_wp2_with fail
     go_roundw
     case rel =>
      obtain ⟨t1, ⟨t2, t3⟩, t4⟩ := HT.out
      refine ⟨vt3, turnF n fn.code st, k + 1, Lib.hid (by rw [t1]; exact HN.out.1), Lib.hid HN.out.2, Lib.hid t2, Lib.hid (by have := HLe.out; omega), Lib.hid (fun q => ?_)⟩
      have h1 := HRu.out (q + 1)
      rw [show q + (k + 1) = q + 1 + k by omega, h1]
      simp only [runF, HOld.out.2.1, HOld.out.2.2]
      simp
     case measure =>
      obtain ⟨t1, ⟨t2, t3⟩, t4⟩ := HT.out
      rw [HOld.out.1, HN.out.1.left, ← t1]
      exact t3
 ·obtain ⟨W, hW⟩ : ∃ W, W = ((((w.alloc (.cells #[.int .i64 fn.params, .int .i64 fn.regs, .bool fn.gen, v1, .slice A n c] 84)).alloc (.cells (Array.replicate n (Value.slice none 0 0)) 223)).alloc (.cells (Array.replicate n (Value.bool false)) 4)).alloc (.cells #[.int .i64 fn.params, .int .i64 fn.regs, .bool fn.gen, v1, .slice A n c, .slice (some ⟨w.heap.size + 1 + 1, 0, none⟩) n n, .slice (some ⟨w.heap.size + 1, 0, none⟩) n n, .slice none 0 0, .bool false] 210)).drew := ⟨_, rfl⟩
  rw [← hW]
  obtain ⟨q1, q2, q3, qB⟩ := four w (.cells #[.int .i64 fn.params, .int .i64 fn.regs, .bool fn.gen, v1, .slice A n c] 84) (.cells (Array.replicate n (Value.slice none 0 0)) 223) (.cells (Array.replicate n (Value.bool false)) 4) (.cells #[.int .i64 fn.params, .int .i64 fn.regs, .bool fn.gen, v1, .slice A n c, .slice (some ⟨w.heap.size + 1 + 1, 0, none⟩) n n, .slice (some ⟨w.heap.size + 1, 0, none⟩) n n, .slice none 0 0, .bool false] 210)
  rw [← hW] at q1 q2 q3 qB
  have hWS : WS W w.heap.size ⟨n, w.heap.size + 1 + 1 + 1, w.heap.size + 1 + 1, w.heap.size + 1, fn.params, fn.regs, fn.gen, v1, A, c⟩ (.slice none 0 0) (init n) := WS.init W w.heap.size ⟨n, w.heap.size + 1 + 1 + 1, w.heap.size + 1 + 1, w.heap.size + 1, fn.params, fn.regs, fn.gen, v1, A, c⟩ hn (by simp; omega) q3 q2 q1
  have hsz := qB.size
  clear hW q1 q2 q3 mk1 mk2
  generalize w.heap.size + 1 + 1 + 1 = wb at hWS ⊢
  generalize w.heap.size + 1 + 1 = sb at hWS ⊢
  generalize w.heap.size + 1 = ob at hWS ⊢
  obtain ⟨f, hf⟩ : ∃ f : Wf, f = ⟨n, wb, sb, ob, fn.params, fn.regs, fn.gen, v1, A, c⟩ := ⟨_, rfl⟩
  rw [← hf] at hWS
  have f1 : f.wb = wb := by rw [hf]
  have f2 : f.n = n := by rw [hf]
  have f3 : f.A5 = A := by rw [hf]
  have HCM := come_any W w.heap.size hsz f _ _ hWS 0 (by omega) (.slice none 0 0) [] ⟨none, 0, rfl, Nat.le_refl _, by omega, fun _ => rfl, Rd.C.nil _ _ _ _⟩ (by simp [init])
  rw [f1, f2] at HCM
  have ok0 := comeF_ok (init_ok n) 0 (by omega) []
  have lf0 : (init n).left = 2 * n := by simp [init, St.left]
  obtain ⟨st0, hst0⟩ : ∃ st0, st0 = comeF n (init n) 0 [] := ⟨_, rfl⟩
  rw [← hst0] at HCM ok0 HR
  have HST := Lib.hid ok0
  have HCM' := Lib.hid HCM
  have HF := Lib.hid hf
  have HB := Lib.hid qB
  clear hWS HCM ok0 hst0 hf qB hsz
  go_wp2_with fail
  refine (HCM'.out).mono ?_
  rintro e w2 ⟨rfl, hb, vt2, hk, hws⟩
  have hI : WS w2 w.heap.size f vt2 st0 ∧ Below w.heap.size w w2 := ⟨hws, HB.out.trans hb⟩
  have HI := Lib.hid hI
  clear hb hk hws hI HCM'
  go_wp2_with fail
  go_loopw [] (fun wr => ∃ (vt : Value) (st : St) (k : Nat), Hid (WS wr w.heap.size f vt st) ∧ Hid (Below w.heap.size w wr) ∧ Hid (st.Ok n) ∧ Hid (st.left + k ≤ 2 * n) ∧ Hid (∀ m, runF n fn.code (m + k) st0 = runF n fn.code m st)) (fun wr => leftW f wr)
  case atStart => exact ⟨vt2, st0, 0, Lib.hid HI.out.1, Lib.hid HI.out.2, Lib.hid HST.out.1, Lib.hid (by have := HST.out.2; rw [lf0] at this; simpa using this), Lib.hid (fun m => rfl)⟩
  case round =>
   obtain ⟨vt, st, k, HW, HBl, HO, HLe, HRu⟩ := hrel
   obtain ⟨A', c', hvt⟩ : ∃ A' c', vt = .slice A' st.todo.length c' := by
    obtain ⟨A', c', hv, _⟩ := HW.out.own.reads (by decide)
    injection hv with hv
    exact ⟨_, _, hv⟩
   subst hvt
   have e5 : wr.cell? ⟨f.wb, 5, none⟩ = some (.slice (some ⟨f.sb, 0, none⟩) f.n f.n) := cell_at HW.out.hw 5 rfl
   have e6 : wr.cell? ⟨f.wb, 6, none⟩ = some (.slice (some ⟨f.ob, 0, none⟩) f.n f.n) := cell_at HW.out.hw 6 rfl
   have e7 : wr.cell? ⟨f.wb, 7, none⟩ = some (.slice A' st.todo.length c') := cell_at HW.out.hw 7 rfl
   have e8 : wr.cell? ⟨f.wb, 8, none⟩ = some (.bool st.bad) := cell_at HW.out.hw 8 rfl
   have fr : wr.frozen? ⟨f.wb, 7, none⟩ = false := free_at HW.out.hw 7
   have hct : st.todo.length ≤ n := by have := HO.out.ct; omega
   rw [f1] at e5 e6 e7 e8 fr
   have fin : (st.todo = [] ∨ st.bad = true) → R = st := fun hd => by
    have h1 := HRu.out (2 * n + 2 - k)
    have h2 := HLe.out
    rw [show 2 * n + 2 - k + k = 2 * n + 2 by omega, ← HR.out, runF_done hd] at h1
    exact h1
   have HFin := Lib.hid fin
   clear fin
   by_cases ht : st.todo = []
   ·have hR := HFin.out (.inl ht)
    have hl0 : st.todo.length = 0 := by rw [ht]; rfl
    rw [hl0] at e7
    have HRR := Lib.hid hR
    clear hR ht hl0
    go_wp2_with fail
    go_quiet (fail)
    go_wp2_with fail
    refine bodyPost_ret (v := .tuple #[.slice (some ⟨f.ob, 0, none⟩) f.n f.n, .slice (some ⟨f.sb, 0, none⟩) f.n f.n, .bool (!st.bad)]) (by simp [results, Tryd.results122, go_sem, f2]) rfl ⟨_, _, by rw [HRR.out], ⟨rfl, rfl⟩, ?_⟩
    exact ⟨HBl.out.os, HBl.out.tape, HBl.out.output, HBl.out.size, HBl.out.block⟩
   ·obtain ⟨m, hm⟩ : ∃ m, st.todo.length = m + 1 := ⟨st.todo.length - 1, by have := List.length_pos_iff.2 ht; omega⟩
    cases hbd : st.bad with
    | true =>
     have HRR := Lib.hid (HFin.out (.inr hbd))
     rw [hm] at e7
     rw [hbd] at e8
     go_wp2_with fail
     go_quiet (fail)
     go_wp2_with fail
     refine bodyPost_ret (v := .tuple #[.slice (some ⟨f.ob, 0, none⟩) f.n f.n, .slice (some ⟨f.sb, 0, none⟩) f.n f.n, .bool false]) (by simp [results, Tryd.results122, go_sem, f2]) rfl ⟨_, _, by rw [HRR.out, hbd]; rfl, ⟨rfl, rfl⟩, ?_⟩
     exact ⟨HBl.out.os, HBl.out.tape, HBl.out.output, HBl.out.size, HBl.out.block⟩
    | false =>
     obtain ⟨x, hx⟩ : ∃ x, st.todo[m]? = some x := ⟨_, List.getElem?_eq_getElem (by omega)⟩
     obtain ⟨A2, c2, hv2, _, _, _, hC2⟩ := HW.out.own.reads (by decide)
     injection hv2 with hv2
     injection hv2 with hv2 _ hv3
     subst hv2 hv3
     obtain ⟨ad, cs, rfl, _, _, ⟨rfl, hxi⟩, hc0, _⟩ := hC2.elem m x hx
     have ex : wr.cell? (ad.add m) = some (.int .i64 x) := by have := hc0 _ rfl; simpa [Rd.int] using this
     rw [hm] at e7
     rw [hbd] at e8
     clear hc0 hC2
     have htd := HO.out.td x (List.mem_of_getElem? hx)
     obtain ⟨i, rfl⟩ := Int.eq_ofNat_of_zero_le htd.1
     have hgl : st.todo.getLast?.getD 0 = (i : Int) := by rw [List.getLast?_eq_getElem?, hm, Nat.add_sub_cancel, hx]; rfl
     have htf : turnF n fn.code st = fromF n fn.code { st with todo := st.todo.dropLast } i := by unfold turnF; rw [hgl, Int.toNat_natCast]
     have HP : Hid (∀ q, Below w.heap.size wr ((wr.drewN q).setCell ⟨wb, 7, none⟩ (.slice (some ad) m c')) ∧ WS ((wr.drewN q).setCell ⟨wb, 7, none⟩ (.slice (some ad) m c')) w.heap.size f (.slice (some ad) m c') { st with todo := st.todo.dropLast }) := Lib.hid (fun q => by
      have h0 := HW.out.same (w1 := wr.drewN q) (fun _ _ => rfl)
      have h1 := h0.pop ht
      have h2 := h0.below 7 (.slice (some ad) m c')
      rw [hm, Nat.add_sub_cancel, f1] at h1
      rw [f1] at h2
      exact ⟨⟨h2.os, h2.tape, h2.output, h2.size, h2.block⟩, h1⟩)
     have HT := Lib.hid (And.intro htf (And.intro (turnF_ok HO.out HJ.out ht) (show runF n fn.code 1 st = turnF n fn.code st by simp [runF, ht, hbd])))
     have HOld := Lib.hid (And.intro HW.out.left (And.intro ht hbd))
     have HI2 := Lib.hid htd.2
     clear hgl htf htd hx hxi
     go_wp2_with fail
     go_quiet (fail)
     go_wp2_with fail
     go_region
     obtain ⟨W3, hW3⟩ : ∃ W3, W3 = (wr.drewN (nq + 1)).setCell ⟨wb, 7, none⟩ (.slice (some ad) m c') := ⟨_, rfl⟩
     rw [← hW3]
     obtain ⟨pB, pW⟩ := HP.out (nq + 1)
     rw [← hW3] at pB pW
     have pB2 := HBl.out.trans pB
     have HFR : Hid (Calls Tryd.prog 150 #[.pointer (some ⟨wb, 0, none⟩), .int .i64 i] W3 fun e w' => e = .returned (.tuple #[]) ∧ Below w.heap.size W3 w' ∧ ∃ vt', Kept f W3 w' (.slice (some ad) m c') vt' ∧ WS w' w.heap.size f vt' (fromF n fn.code { st with todo := st.todo.dropLast } i)) := Lib.hid (by
      have := from_any W3 w.heap.size pB2.size f _ _ pW (by have := HO.out.ct; simp only [List.length_dropLast]; omega) i (by rw [f2]; have := HI2.out; omega) fn.code (by rw [f3, f2]; exact HC.out _ pB2) HJ.out HO.out.l20
      rwa [f1, f2] at this)
     have HB3 := Lib.hid pB2
     clear pB pW pB2 hW3 e5 e6 e7 e8 fr ex
     go_wp2_with fail
     refine (HFR.out).mono ?_
     rintro e w4 ⟨rfl, hb, vt3, hk, hws⟩
     have HN := Lib.hid (And.intro hws (HB3.out.trans hb))
     clear hb hk hws
     go_wp2_with fail
     go_roundw
     case rel =>
      obtain ⟨t1, ⟨t2, t3⟩, t4⟩ := HT.out
      refine ⟨vt3, turnF n fn.code st, k + 1, Lib.hid (by rw [t1]; exact HN.out.1), Lib.hid HN.out.2, Lib.hid t2, Lib.hid (by have := HLe.out; omega), Lib.hid (fun q => ?_)⟩
      have h1 := HRu.out (q + 1)
      rw [show q + (k + 1) = q + 1 + k by omega, h1]
      simp only [runF, HOld.out.2.1, HOld.out.2.2]
      simp
     case measure =>
      obtain ⟨t1, ⟨t2, t3⟩, t4⟩ := HT.out
      rw [HOld.out.1, HN.out.1.left, ← t1]
      exact t3
end Go.Proofs.YtefkifdhjabdiaaDoor
namespace Go.Proofs.YtefkifdhjabdiaaDoor
set_option linter.unusedVariables false
set_option linter.unusedSimpArgs false
open Go.RowKit

def lkOf (p : Prog) (f : Fn) : Lk := ⟨p.fns.length, p.consts.length, p.texts.length, f.regs, f.caught.length, f.code.length⟩
def ordersF (p : Prog) (f : Fn) : Bool := (List.range f.code.length).all fun i => match f.code[i]? with | some o => orderF p.fns (lkOf p f) f.gen (i : Int) o | none => true
def headF (f : Fn) : Bool := decide (0 ≤ f.params) && decide (1 ≤ f.regs) && decide (f.params ≤ f.regs)
def functionF (p : Prog) (f : Fn) : Bool := headF f && ordersF p f && !(triesF f.code).bad

theorem form_13 {a b c : UInt8} (h : formF 13 = some (a, b, c)) : a = 97 := by
 have h : some _ = some (a, b, c) := h
 injection h with h
 injection h with ha h
 exact ha.symm
theorem form_14 {a b c : UInt8} (h : formF 14 = some (a, b, c)) : a = 97 := by
 have h : some _ = some (a, b, c) := h
 injection h with h
 injection h with ha h
 exact ha.symm
theorem form_15 {a b c : UInt8} (h : formF 15 = some (a, b, c)) : b = 97 := by
 have h : some _ = some (a, b, c) := h
 injection h with h
 injection h with ha h
 injection h with hb hc
 exact hb.symm
theorem form_30 {a b c : UInt8} (h : formF 30 = some (a, b, c)) : b = 97 := by
 have h : some _ = some (a, b, c) := h
 injection h with h
 injection h with ha h
 injection h with hb hc
 exact hb.symm
theorem order_names {fns : List Fn} {l : Lk} {gen : Bool} {at_ : Int} {i : Ord} (h : orderF fns l gen at_ i = true) : ∃ a b c, formF i.op = some (a, b, c) ∧ namesF l a i.a = true ∧ namesF l b i.b = true ∧ namesF l c i.c = true := by
 unfold orderF at h
 cases hf : formF i.op with
 | none => rw [hf] at h; simp at h
 | some F =>
  obtain ⟨a, b, c⟩ := F
  rw [hf] at h
  simp only [Bool.and_eq_true] at h
  exact ⟨a, b, c, rfl, h.1.1.1.2, h.1.1.2, h.1.2⟩
theorem order_jumps {fns : List Fn} {l : Lk} {gen : Bool} {at_ : Int} {i : Ord} (h : orderF fns l gen at_ i = true) : ((i.op = 13 ∨ i.op = 14) → 0 ≤ i.a) ∧ ((i.op = 15 ∨ i.op = 30) → 0 ≤ i.b) := by
 obtain ⟨a, b, c, hf, ha, hb, hc⟩ := order_names h
 refine ⟨fun ho => ?_, fun ho => ?_⟩
 ·have h97 : a = 97 := by
   rcases ho with ho | ho
   ·rw [ho] at hf; exact form_13 hf
   ·rw [ho] at hf; exact form_14 hf
  subst h97
  have h1 : withinF i.a 0 ((l.no : Int) - 1) = true := ha
  exact (within_iff.1 h1).1
 ·have h97 : b = 97 := by
   rcases ho with ho | ho
   ·rw [ho] at hf; exact form_15 hf
   ·rw [ho] at hf; exact form_30 hf
  subst h97
  have h1 : withinF i.b 0 ((l.no : Int) - 1) = true := hb
  exact (within_iff.1 h1).1
theorem orders_at {p : Prog} {f : Fn} : ordersF p f = true ↔ ∀ (i : Nat) (o : Ord), f.code[i]? = some o → orderF p.fns (lkOf p f) f.gen (i : Int) o = true := by
 unfold ordersF
 rw [List.all_eq_true]
 constructor
 ·intro h i o ho
  have := h i (by rw [List.mem_range]; exact (List.getElem?_eq_some_iff.1 ho).1)
  rwa [ho] at this
 ·intro h i hi
  cases ho : f.code[i]? with
  | none => rfl
  | some o => exact h i o ho
theorem orders_jumps {p : Prog} {f : Fn} (h : ordersF p f = true) : jumpsOk f.code := fun o ho => by
 obtain ⟨i, hi, e⟩ := List.mem_iff_getElem.1 ho
 exact order_jumps (orders_at.1 h i o (by rw [List.getElem?_eq_getElem hi, e]))
end Go.Proofs.YtefkifdhjabdiaaDoor
namespace Go.Proofs.YtefkifdhjabdiaaDoor
set_option linter.unusedVariables false
set_option linter.unusedSimpArgs false
open Go.RowKit
theorem C_map {α β : Type} {d : Rd α} {d' : Rd β} (φ : α → β) (hs : d.sz = d'.sz) {ok : Nat → Prop} {w : World} (hK : ∀ x cs, d.K ok w x cs → d'.K ok w (φ x) cs) {A : Option Addr} {n : Nat} {xs : List α} (h : d.C ok w A n xs) : d'.C ok w A n (xs.map φ) :=
 ⟨by simpa using h.1, h.2.1, fun hn => by
  obtain ⟨ad, e, h1, h2, h3⟩ := h.2.2 hn
  refine ⟨ad, e, h1, h2, fun i x hi => ?_⟩
  rw [List.getElem?_map] at hi
  obtain ⟨y, hy, rfl⟩ := Option.map_eq_some_iff.1 hi
  obtain ⟨cs, hk, hc⟩ := h3 i y hy
  exact ⟨cs, hK y cs hk, fun j u hj => by rw [← hs]; exact hc j u hj⟩⟩
theorem sl_map {α β : Type} {d : Rd α} {d' : Rd β} (φ : α → β) (hs : d.sz = d'.sz) {ok : Nat → Prop} {w : World} (hK : ∀ x cs, d.K ok w x cs → d'.K ok w (φ x) cs) {xs : List α} {v : Value} (h : SlK d ok w xs v) : SlK d' ok w (xs.map φ) v := by
 obtain ⟨A, c, hv, h1, h2, h3, hC⟩ := h
 exact ⟨A, c, by simpa using hv, by simpa using h1, h2, by simpa using h3, by simpa using C_map φ hs hK hC⟩
def toOrd (o : EOrd) : Ord := ⟨o.1, o.2.1, o.2.2.1, o.2.2.2.1, o.2.2.2.2⟩
def toFn (f : EFn) : Fn := ⟨f.1, f.2.1, f.2.2.1, f.2.2.2.1, f.2.2.2.2.map toOrd⟩
def toVal (v : EVal) : Val := ⟨v.1, v.2⟩
def toProg (p : EProg) : Prog := ⟨p.1.map toFn, p.2.1.map toVal, p.2.2⟩
theorem tOrd_K {ok : Nat → Prop} {w : World} (x : EOrd) (cs : List Value) (h : tOrd.rd.K ok w x cs) : rdOrd.K ok w (toOrd x) cs := by
 obtain ⟨_, _, rfl, ⟨rfl, i0⟩, _, _, rfl, ⟨rfl, i1⟩, _, _, rfl, ⟨rfl, i2⟩, _, _, rfl, ⟨rfl, i3⟩, ⟨rfl, i4⟩⟩ := h
 exact ⟨rfl, i64_iff.1 i0, i64_iff.1 i1, i64_iff.1 i2, i64_iff.1 i3, i64_iff.1 i4⟩
theorem tI_K {ok : Nat → Prop} {w : World} (x : Int) (cs : List Value) (h : tI.rd.K ok w x cs) : Rd.int.K ok w x cs := ⟨h.1, i64_iff.1 h.2⟩
theorem ints_of {ok : Nat → Prop} {w : World} {xs : List Int} {v : Value} (h : SlK tI.rd ok w xs v) : SlK Rd.int ok w xs v := by
 have := sl_map (d := tI.rd) (d' := Rd.int) id rfl tI_K h
 simpa using this
theorem tFn_K {ok : Nat → Prop} {w : World} (x : EFn) (cs : List Value) (h : tFn.rd.K ok w x cs) : rdFn.K ok w (toFn x) cs := by
 obtain ⟨_, _, rfl, ⟨rfl, i0⟩, _, _, rfl, ⟨rfl, i1⟩, _, _, rfl, h2, _, _, rfl, h3, h4⟩ := h
 obtain rfl := h2
 obtain ⟨v3, rfl, hv3⟩ := SlK_of h3
 obtain ⟨v4, rfl, hv4⟩ := SlK_of h4
 exact ⟨v3, v4, rfl, ⟨i64_iff.1 i0, i64_iff.1 i1⟩, ints_of hv3, sl_map toOrd rfl tOrd_K hv4⟩
theorem fns_of {ok : Nat → Prop} {w : World} {xs : List EFn} {v : Value} (h : SlK tFn.rd ok w xs v) : SlK rdFn ok w (xs.map toFn) v := sl_map toFn rfl tFn_K h
theorem prog_vals {σ : Sg} {w : World} {p : EProg} {x : Value} (h : CA σ w (.agg (tProg.enc p)) x) : ∃ A1 A2 A3 c1 c2 c3, x = .agg #[.slice A1 p.1.length c1, .slice A2 p.2.1.length c2, .slice A3 p.2.2.length c3] ∧ rdFn.C σ.R w A1 p.1.length (p.1.map toFn) ∧ p.2.1.length ≤ 9223372036854775807 ∧ Rd.str.C σ.R w A3 p.2.2.length p.2.2 ∧ p.1.length ≤ 9223372036854775807 ∧ p.2.2.length ≤ 9223372036854775807 := by
 obtain ⟨cs, hx, hcs⟩ := h
 obtain ⟨v1, r1, e1, h1, q1⟩ := cons_one (c := .ro tFn p.1) (cs := [.ro tVal p.2.1, .ro .str p.2.2]) hcs
 obtain ⟨v2, r2, e2, h2, q2⟩ := cons_one q1
 obtain ⟨v3, r3, e3, h3, q3⟩ := cons_one q2
 obtain rfl := nil_one q3
 have h1' := fns_of (h1 : SlK tFn.rd σ.R w p.1 v1)
 obtain ⟨A1, c1, w1, a1, b1, d1, C1⟩ := h1'
 obtain ⟨A2, c2, w2, a2, b2, d2, C2⟩ := h2
 obtain ⟨A3, c3, w3, a3, b3, d3, C3⟩ := h3
 injection w1 with w1
 injection w2 with w2
 injection w3 with w3
 rw [List.length_map] at w1 C1
 refine ⟨A1, A2, A3, c1, c2, c3, ?_, C1, C2.2.1, C3, C1.2.1, C3.2.1⟩
 rw [hx]
 congr 1
 apply Array.toList_inj.1
 rw [e1, e2, e3, w1, w2, w3]
theorem large_fun (p : EProg) : AFun Tryd.prog 79 [.agg (tProg.enc p)] (.c (.bool (largeF (toProg p)))) := fun R w vs hR hG hv => by
 left
 refine ⟨enters_of Tryd.func79 (by decide) rfl _ _, ?_⟩
 obtain ⟨x, r, rfl, hx, hr⟩ := vals_one hv
 obtain rfl := vals_nil hr
 obtain ⟨A1, A2, A3, c1, c2, c3, rfl, C1, l2, C3, _⟩ := prog_vals hx
 have := large_any (toProg p) R w A1 A2 A3 c1 c2 c3 (by simpa [toProg] using C1) (by simpa [toProg] using l2) (by simpa [toProg] using C3)
 simp only [toProg, List.length_map] at this
 exact this.mono fun e w' ⟨he, hb⟩ => ⟨_, he, hb, rfl⟩
theorem form_fun (op : Int) : AFun Tryd.prog 144 [.c (.int .i64 op)] (.c (.str (formS op))) := fun R w vs hR hG hv => by
 left
 refine ⟨enters_of Tryd.func144 (by decide) rfl _ _, ?_⟩
 obtain ⟨x, r, rfl, ⟨hx, _⟩, hr⟩ := vals_one hv
 obtain rfl := vals_nil hr
 subst hx
 refine (form_any op w).mono fun e w' ⟨he, hb⟩ => ⟨_, he, hb, rfl, ?_⟩
 unfold formS
 cases formF op with
 | none => show (0 : Nat) ≤ _; omega
 | some t => obtain ⟨a, b, c⟩ := t; show (3 : Nat) ≤ _; omega
theorem tries_fun (f : EFn) (hj : jumpsOk (toFn f).code) (hn : f.2.2.2.2.length ≤ 600) : AFun Tryd.prog 122 [.agg (tFn.enc f)] (.tup [.c .junk, .c .junk, .c (.bool (!(triesF (toFn f).code).bad))]) := fun R w vs hR hG hv => by
 left
 refine ⟨enters_of Tryd.func122 (by decide) rfl _ _, ?_⟩
 obtain ⟨y, r, rfl, ⟨cs, hy, hcs⟩, hr⟩ := vals_one hv
 obtain rfl := vals_nil hr
 obtain ⟨v1, r1, e1, ⟨h1, i1⟩, q1⟩ := cons_one (c := .int .i64 f.1) (cs := [.int .i64 f.2.1, .bool f.2.2.1, .ro tI f.2.2.2.1, .ro tOrd f.2.2.2.2]) hcs
 obtain ⟨v2, r2, e2, ⟨h2, i2⟩, q2⟩ := cons_one q1
 obtain ⟨v3, r3, e3, h3, q3⟩ := cons_one q2
 obtain ⟨v4, r4, e4, h4, q4⟩ := cons_one q3
 obtain ⟨v5, r5, e5, h5, q5⟩ := cons_one q4
 obtain rfl := nil_one q5
 have h5' := sl_map toOrd rfl tOrd_K (h5 : SlK tOrd.rd R w f.2.2.2.2 v5)
 obtain ⟨A5, c5, w5, a5, b5, d5, C5⟩ := h5'
 injection w5 with w5
 rw [List.length_map] at w5 C5
 have hcs2 : cs = #[.int .i64 f.1, .int .i64 f.2.1, .bool f.2.2.1, v4, .slice A5 f.2.2.2.2.length c5] := by
  apply Array.toList_inj.1
  rw [e1, e2, e3, e4, e5, h1, h2, (h3 : v3 = _), w5]
 subst hcs2
 subst hy
 have := tries_any w R (toFn f) v4 A5 c5 (by simpa [toFn] using C5) hj (by simpa [toFn] using hn)
 simp only [toFn, List.length_map] at this
 refine this.mono fun e w' ⟨vo, vs, he, ⟨o1, o2⟩, hb⟩ => ⟨_, he, hb, _, rfl, .cons o1 (.cons o2 (.cons rfl .nil))⟩
end Go.Proofs.YtefkifdhjabdiaaDoor
namespace Go.Proofs.YtefkifdhjabdiaaDoor
set_option maxHeartbeats 4000000
set_option linter.unusedVariables false
set_option linter.unusedSimpArgs false
set_option maxRecDepth 100000
abbrev tLook : Ty := .pair tProg tFn
abbrev ELook := EProg × EFn
def lkE (l : ELook) : Lk := ⟨l.1.1.length, l.1.2.1.length, l.1.2.2.length, l.2.2.1, l.2.2.2.2.1.length, l.2.2.2.2.2.length⟩
def namesI (l : ELook) (c n : Int) : Bool :=
 if c = 114 then withinF n 0 (l.2.2.1 - 1)
 else if c = 107 then withinF n 0 ((l.1.2.1.length : Int) - 1)
 else if c = 116 then withinF n 0 ((l.1.2.2.length : Int) - 1)
 else if c = 97 then withinF n 0 ((l.2.2.2.2.2.length : Int) - 1)
 else if c = 117 then withinF n 0 ((l.2.2.2.2.1.length : Int) - 1)
 else if c = 102 then withinF n 1 ((l.1.1.length : Int) - 1)
 else if c = 108 then withinF n 0 l.2.2.1 else if c = 99 then withinF n 0 l.2.2.1 else if c = 110 then withinF n 0 l.2.2.1
 else decide (n = 0)
theorem u8_eq (c : UInt8) (k : Nat) (hk : k < 256) : ((c.toNat : Int) = (k : Int)) ↔ c = UInt8.ofNat k := by
 constructor
 ·intro h
  apply UInt8.toNat_inj.1
  rw [UInt8.toNat_ofNat', Nat.mod_eq_of_lt hk]; omega
 ·intro h; rw [h, UInt8.toNat_ofNat', Nat.mod_eq_of_lt hk]
theorem namesI_eq (l : ELook) (c : UInt8) (n : Int) : namesI l (c.toNat : Int) n = namesF (lkE l) c n := by
 have e : ∀ k : Nat, k < 256 → (((c.toNat : Int) = (k : Int)) ↔ c = UInt8.ofNat k) := u8_eq c
 have e1 := e 114 (by omega)
 have e2 := e 107 (by omega)
 have e3 := e 116 (by omega)
 have e4 := e 97 (by omega)
 have e5 := e 117 (by omega)
 have e6 := e 102 (by omega)
 have e7 := e 108 (by omega)
 have e8 := e 99 (by omega)
 have e9 := e 110 (by omega)
 unfold namesI namesF lkE
 simp only [show ((c.toNat : Int) = 114) ↔ c = 114 from e1, show ((c.toNat : Int) = 107) ↔ c = 107 from e2, show ((c.toNat : Int) = 116) ↔ c = 116 from e3, show ((c.toNat : Int) = 97) ↔ c = 97 from e4, show ((c.toNat : Int) = 117) ↔ c = 117 from e5, show ((c.toNat : Int) = 102) ↔ c = 102 from e6, show ((c.toNat : Int) = 108) ↔ c = 108 from e7, show ((c.toNat : Int) = 99) ↔ c = 99 from e8, show ((c.toNat : Int) = 110) ↔ c = 110 from e9]
 by_cases h7 : c = 108
 ·simp [h7]
 ·by_cases h8 : c = 99
  ·simp [h8]
  ·simp [h7, h8]
noncomputable def oc40 : Orc where
 pure := fun f args => match f, args with
  | _, _ => none
 heap := fun _ _ _ => none
def within_lv : LV := ⟨([]), []⟩
noncomputable def within_T (n : Int) (a : Int) (b : Int) : Tree :=
 .ite (decide (a ≤ n))
 (.ret (.c (.bool (decide (n ≤ b)))) [])
 (.ret (.c (.lit false)) [])
theorem within_T_ok (n : Int) (a : Int) (b : Int) : aRun Tryd.prog oc40 Tryd.f145 within_lv 3000 [.code (bodyOf Tryd.f145)] ([.c (.int .i64 n), .c (.int .i64 a), .c (.int .i64 b)] ++ List.replicate (Func.ntmps Tryd.f145 - 3) .junk) [] = within_T n a b := by kernel_rfl
theorem within_fun (n : Int) (a : Int) (b : Int) : AFun Tryd.prog 145 [.c (.int .i64 n), .c (.int .i64 a), .c (.int .i64 b)] (.c (.bool (withinF n a b))) :=
 AFun.of oc40 within_lv 3000 Tryd.func145 mixed rfl (by decide) (Nat.le_of_ble_eq_true rfl) _ (within_T_ok n a b) fun hF => by
  unfold within_T
  refine g_iteD (fun h0 => ?_) (fun h0 => ?_)
  ·exact g_retb (by first | rfl | (simp only [withinF, h0, if_true, if_false, Int.reduceEq, reduceIte, decide_true, decide_false, Bool.and_true, Bool.and_false, Bool.true_and, Bool.false_and]; done) | (simp_all [withinF]; done))
  ·exact g_retl (by first | rfl | (simp only [withinF, h0, if_true, if_false, Int.reduceEq, reduceIte, decide_true, decide_false, Bool.and_true, Bool.and_false, Bool.true_and, Bool.false_and]; done) | (simp_all [withinF]; done))

noncomputable def oc41 : Orc where
 pure := fun f args => match f, args with
  | 145, [a0, a1, a2] => match dA tI a0, dA tI a1, dA tI a2 with
   | some x0, some x1, some x2 => some (.c (.bool (withinF x0 x1 x2)))
   | _, _, _ => none
  | _, _ => none
 heap := fun _ _ _ => none
def lreg_lv : LV := ⟨([]), []⟩
noncomputable def lreg_T (l : ELook) (n : Int) : Tree :=
 .need (inR .i64 (l.2.2.1 - 1)) <|
 .call 145 [.c (.int .i64 n), .c (.int .i64 0), .c (.int .i64 (l.2.2.1 - 1))] false (.c (.bool (withinF n 0 (l.2.2.1 - 1)))) <|
 .ret (.c (.bool (withinF n 0 (l.2.2.1 - 1)))) [.cells 187 (Ty.enc tLook l)]
theorem lreg_T_ok (l : ELook) (n : Int) : aRun Tryd.prog oc41 Tryd.f147 lreg_lv 3000 [.code (bodyOf Tryd.f147)] ([.agg (tLook.enc l), .c (.int .i64 n)] ++ List.replicate (Func.ntmps Tryd.f147 - 2) .junk) [] = lreg_T l n := by kernel_rfl
theorem lreg_fun (l : ELook) (n : Int) (hr : 0 ≤ l.2.2.1) : AFun Tryd.prog 147 [.agg (tLook.enc l), .c (.int .i64 n)] (.c (.bool (withinF n 0 (l.2.2.1 - 1)))) :=
 AFun.of oc41 lreg_lv 3000 Tryd.func147 mixed rfl (by decide) (Nat.le_of_ble_eq_true rfl) _ (lreg_T_ok l n) fun hF => by
  have hb := i64_iff.1 hF.agg.1.2.2.1
  unfold lreg_T
  refine g_need (i64_iff.2 (by omega)) ?_
  refine g_call (within_fun n 0 (l.2.2.1 - 1)) (fun h => nomatch h) ?_
  exact g_retb (by rfl)

noncomputable def oc42 : Orc where
 pure := fun f args => match f, args with
  | 145, [a0, a1, a2] => match dA tI a0, dA tI a1, dA tI a2 with
   | some x0, some x1, some x2 => some (.c (.bool (withinF x0 x1 x2)))
   | _, _, _ => none
  | _, _ => none
 heap := fun _ _ _ => none
def ltext_lv : LV := ⟨([]), []⟩
noncomputable def ltext_T (l : ELook) (n : Int) : Tree :=
 .need (inR .i64 ((l.1.2.2.length : Int) - 1)) <|
 .call 145 [.c (.int .i64 n), .c (.int .i64 0), .c (.int .i64 ((l.1.2.2.length : Int) - 1))] false (.c (.bool (withinF n 0 ((l.1.2.2.length : Int) - 1)))) <|
 .ret (.c (.bool (withinF n 0 ((l.1.2.2.length : Int) - 1)))) [.cells 187 (Ty.enc tLook l)]
theorem ltext_T_ok (l : ELook) (n : Int) : aRun Tryd.prog oc42 Tryd.f161 ltext_lv 3000 [.code (bodyOf Tryd.f161)] ([.agg (tLook.enc l), .c (.int .i64 n)] ++ List.replicate (Func.ntmps Tryd.f161 - 2) .junk) [] = ltext_T l n := by kernel_rfl
theorem ltext_fun (l : ELook) (n : Int) : AFun Tryd.prog 161 [.agg (tLook.enc l), .c (.int .i64 n)] (.c (.bool (withinF n 0 ((l.1.2.2.length : Int) - 1)))) :=
 AFun.of oc42 ltext_lv 3000 Tryd.func161 mixed rfl (by decide) (Nat.le_of_ble_eq_true rfl) _ (ltext_T_ok l n) fun hF => by
  have hb := hF.agg.1.1.2.2.1
  unfold ltext_T
  refine g_need (i64_iff.2 (by omega)) ?_
  refine g_call (within_fun n 0 ((l.1.2.2.length : Int) - 1)) (fun h => nomatch h) ?_
  exact g_retb (by rfl)

noncomputable def oc43 : Orc where
 pure := fun f args => match f, args with
  | 145, [a0, a1, a2] => match dA tI a0, dA tI a1, dA tI a2 with
   | some x0, some x1, some x2 => some (.c (.bool (withinF x0 x1 x2)))
   | _, _, _ => none
  | _, _ => none
 heap := fun _ _ _ => none
def lat_lv : LV := ⟨([]), []⟩
noncomputable def lat_T (l : ELook) (n : Int) : Tree :=
 .need (inR .i64 ((l.2.2.2.2.2.length : Int) - 1)) <|
 .call 145 [.c (.int .i64 n), .c (.int .i64 0), .c (.int .i64 ((l.2.2.2.2.2.length : Int) - 1))] false (.c (.bool (withinF n 0 ((l.2.2.2.2.2.length : Int) - 1)))) <|
 .ret (.c (.bool (withinF n 0 ((l.2.2.2.2.2.length : Int) - 1)))) [.cells 187 (Ty.enc tLook l)]
theorem lat_T_ok (l : ELook) (n : Int) : aRun Tryd.prog oc43 Tryd.f162 lat_lv 3000 [.code (bodyOf Tryd.f162)] ([.agg (tLook.enc l), .c (.int .i64 n)] ++ List.replicate (Func.ntmps Tryd.f162 - 2) .junk) [] = lat_T l n := by kernel_rfl
theorem lat_fun (l : ELook) (n : Int) : AFun Tryd.prog 162 [.agg (tLook.enc l), .c (.int .i64 n)] (.c (.bool (withinF n 0 ((l.2.2.2.2.2.length : Int) - 1)))) :=
 AFun.of oc43 lat_lv 3000 Tryd.func162 mixed rfl (by decide) (Nat.le_of_ble_eq_true rfl) _ (lat_T_ok l n) fun hF => by
  have hb := hF.agg.1.2.2.2.2.2.1
  unfold lat_T
  refine g_need (i64_iff.2 (by omega)) ?_
  refine g_call (within_fun n 0 ((l.2.2.2.2.2.length : Int) - 1)) (fun h => nomatch h) ?_
  exact g_retb (by rfl)

noncomputable def oc44 : Orc where
 pure := fun f args => match f, args with
  | 145, [a0, a1, a2] => match dA tI a0, dA tI a1, dA tI a2 with
   | some x0, some x1, some x2 => some (.c (.bool (withinF x0 x1 x2)))
   | _, _, _ => none
  | 147, [a0, a1] => match dA tLook a0, dA tI a1 with
   | some x0, some x1 => some (.c (.bool (withinF x1 0 (x0.2.2.1 - 1))))
   | _, _ => none
  | 161, [a0, a1] => match dA tLook a0, dA tI a1 with
   | some x0, some x1 => some (.c (.bool (withinF x1 0 ((x0.1.2.2.length : Int) - 1))))
   | _, _ => none
  | 162, [a0, a1] => match dA tLook a0, dA tI a1 with
   | some x0, some x1 => some (.c (.bool (withinF x1 0 ((x0.2.2.2.2.2.length : Int) - 1))))
   | _, _ => none
  | _, _ => none
 heap := fun _ _ _ => none
def lnames_lv : LV := ⟨([]), []⟩
noncomputable def lnames_T (l : ELook) (c : Int) (n : Int) : Tree :=
 .ite (decide (c = 114))
 (.call 147 [.agg (Ty.enc tLook l), .c (.int .i64 n)] false (.c (.bool (withinF n 0 (l.2.2.1 - 1)))) <|
  .ret (.c (.bool (withinF n 0 (l.2.2.1 - 1)))) [.cells 187 (Ty.enc tLook l)])
 (.ite (decide (c = 107))
  (.need (inR .i64 ((l.1.2.1.length : Int) - 1)) <|
  .call 145 [.c (.int .i64 n), .c (.int .i64 0), .c (.int .i64 ((l.1.2.1.length : Int) - 1))] false (.c (.bool (withinF n 0 ((l.1.2.1.length : Int) - 1)))) <|
  .ret (.c (.bool (withinF n 0 ((l.1.2.1.length : Int) - 1)))) [.cells 187 (Ty.enc tLook l)])
  (.ite (decide (c = 116))
  (.call 161 [.agg (Ty.enc tLook l), .c (.int .i64 n)] false (.c (.bool (withinF n 0 ((l.1.2.2.length : Int) - 1)))) <|
   .ret (.c (.bool (withinF n 0 ((l.1.2.2.length : Int) - 1)))) [.cells 187 (Ty.enc tLook l)])
  (.ite (decide (c = 97))
   (.call 162 [.agg (Ty.enc tLook l), .c (.int .i64 n)] false (.c (.bool (withinF n 0 ((l.2.2.2.2.2.length : Int) - 1)))) <|
   .ret (.c (.bool (withinF n 0 ((l.2.2.2.2.2.length : Int) - 1)))) [.cells 187 (Ty.enc tLook l)])
   (.ite (decide (c = 117))
   (.need (inR .i64 ((l.2.2.2.2.1.length : Int) - 1)) <|
    .call 145 [.c (.int .i64 n), .c (.int .i64 0), .c (.int .i64 ((l.2.2.2.2.1.length : Int) - 1))] false (.c (.bool (withinF n 0 ((l.2.2.2.2.1.length : Int) - 1)))) <|
    .ret (.c (.bool (withinF n 0 ((l.2.2.2.2.1.length : Int) - 1)))) [.cells 187 (Ty.enc tLook l)])
   (.ite (decide (c = 102))
    (.need (inR .i64 ((l.1.1.length : Int) - 1)) <|
    .call 145 [.c (.int .i64 n), .c (.int .i64 1), .c (.int .i64 ((l.1.1.length : Int) - 1))] false (.c (.bool (withinF n 1 ((l.1.1.length : Int) - 1)))) <|
    .ret (.c (.bool (withinF n 1 ((l.1.1.length : Int) - 1)))) [.cells 187 (Ty.enc tLook l)])
    (.ite (decide (c = 108))
    (.ite (decide (c = 108))
     (.call 145 [.c (.int .i64 n), .c (.int .i64 0), .c (.int .i64 l.2.2.1)] false (.c (.bool (withinF n 0 l.2.2.1))) <|
     .ret (.c (.bool (withinF n 0 l.2.2.1))) [.cells 187 (Ty.enc tLook l)])
     (.ret (.c (.bool (decide (n = 0)))) [.cells 187 (Ty.enc tLook l)]))
    (.ite (decide (c = 99))
     (.ite (decide (c = 99))
     (.call 145 [.c (.int .i64 n), .c (.int .i64 0), .c (.int .i64 l.2.2.1)] false (.c (.bool (withinF n 0 l.2.2.1))) <|
      .ret (.c (.bool (withinF n 0 l.2.2.1))) [.cells 187 (Ty.enc tLook l)])
     (.ret (.c (.bool (decide (n = 0)))) [.cells 187 (Ty.enc tLook l)]))
     (.ite (decide (c = 110))
     (.call 145 [.c (.int .i64 n), .c (.int .i64 0), .c (.int .i64 l.2.2.1)] false (.c (.bool (withinF n 0 l.2.2.1))) <|
      .ret (.c (.bool (withinF n 0 l.2.2.1))) [.cells 187 (Ty.enc tLook l)])
     (.ret (.c (.bool (decide (n = 0)))) [.cells 187 (Ty.enc tLook l)])))))))))
theorem lnames_T_ok (l : ELook) (c : Int) (n : Int) : aRun Tryd.prog oc44 Tryd.f146 lnames_lv 3000 [.code (bodyOf Tryd.f146)] ([.agg (tLook.enc l), .c (.int .u8 c), .c (.int .i64 n)] ++ List.replicate (Func.ntmps Tryd.f146 - 3) .junk) [] = lnames_T l c n := by kernel_rfl
theorem lnames_fun (l : ELook) (c : Int) (n : Int) (hr : 0 ≤ l.2.2.1) : AFun Tryd.prog 146 [.agg (tLook.enc l), .c (.int .u8 c), .c (.int .i64 n)] (.c (.bool (namesI l c n))) :=
 AFun.of oc44 lnames_lv 3000 Tryd.func146 mixed rfl (by decide) (Nat.le_of_ble_eq_true rfl) _ (lnames_T_ok l c n) fun hF => by
  have hb := hF.agg.1.2.2.2.2.2.1
  have hb2 := hF.agg.1.1.2.2.1
  have hb3 := hF.agg.1.1.2.1.1
  have hb4 := hF.agg.1.1.1.1
  have hb5 := hF.agg.1.2.2.2.2.1.1
  unfold lnames_T
  refine g_iteD (fun h0 => ?_) (fun h0 => ?_)
  ·refine g_call (lreg_fun l n (by omega)) (fun h => nomatch h) ?_
   exact g_retb (by first | (simp only [namesI, h0, if_true, if_false, Int.reduceEq, reduceIte]; done) | (exfalso; omega))
  ·refine g_iteD (fun h1 => ?_) (fun h1 => ?_)
   ·refine g_need (i64_iff.2 (by omega)) ?_
    refine g_call (within_fun n 0 ((l.1.2.1.length : Int) - 1)) (fun h => nomatch h) ?_
    exact g_retb (by first | (simp only [namesI, h0, h1, if_true, if_false, Int.reduceEq, reduceIte]; done) | (exfalso; omega))
   ·refine g_iteD (fun h2 => ?_) (fun h2 => ?_)
    ·refine g_call (ltext_fun l n) (fun h => nomatch h) ?_
     exact g_retb (by first | (simp only [namesI, h0, h1, h2, if_true, if_false, Int.reduceEq, reduceIte]; done) | (exfalso; omega))
    ·refine g_iteD (fun h3 => ?_) (fun h3 => ?_)
     ·refine g_call (lat_fun l n) (fun h => nomatch h) ?_
      exact g_retb (by first | (simp only [namesI, h0, h1, h2, h3, if_true, if_false, Int.reduceEq, reduceIte]; done) | (exfalso; omega))
     ·refine g_iteD (fun h4 => ?_) (fun h4 => ?_)
      ·refine g_need (i64_iff.2 (by omega)) ?_
       refine g_call (within_fun n 0 ((l.2.2.2.2.1.length : Int) - 1)) (fun h => nomatch h) ?_
       exact g_retb (by first | (simp only [namesI, h0, h1, h2, h3, h4, if_true, if_false, Int.reduceEq, reduceIte]; done) | (exfalso; omega))
      ·refine g_iteD (fun h5 => ?_) (fun h5 => ?_)
       ·refine g_need (i64_iff.2 (by omega)) ?_
        refine g_call (within_fun n 1 ((l.1.1.length : Int) - 1)) (fun h => nomatch h) ?_
        exact g_retb (by first | (simp only [namesI, h0, h1, h2, h3, h4, h5, if_true, if_false, Int.reduceEq, reduceIte]; done) | (exfalso; omega))
       ·refine g_iteD (fun h6 => ?_) (fun h6 => ?_)
        ·refine g_iteD (fun h7 => ?_) (fun h7 => ?_)
         ·refine g_call (within_fun n 0 l.2.2.1) (fun h => nomatch h) ?_
          exact g_retb (by first | (simp only [namesI, h0, h1, h2, h3, h4, h5, h6, h7, if_true, if_false, Int.reduceEq, reduceIte]; done) | (exfalso; omega))
         ·exact g_retb (by first | (simp only [namesI, h0, h1, h2, h3, h4, h5, h6, h7, if_true, if_false, Int.reduceEq, reduceIte]; done) | (exfalso; omega))
        ·refine g_iteD (fun h7 => ?_) (fun h7 => ?_)
         ·refine g_iteD (fun h8 => ?_) (fun h8 => ?_)
          ·refine g_call (within_fun n 0 l.2.2.1) (fun h => nomatch h) ?_
           exact g_retb (by first | (simp only [namesI, h0, h1, h2, h3, h4, h5, h6, h7, h8, if_true, if_false, Int.reduceEq, reduceIte]; done) | (exfalso; omega))
          ·exact g_retb (by first | (simp only [namesI, h0, h1, h2, h3, h4, h5, h6, h7, h8, if_true, if_false, Int.reduceEq, reduceIte]; done) | (exfalso; omega))
         ·refine g_iteD (fun h8 => ?_) (fun h8 => ?_)
          ·refine g_call (within_fun n 0 l.2.2.1) (fun h => nomatch h) ?_
           exact g_retb (by first | (simp only [namesI, h0, h1, h2, h3, h4, h5, h6, h7, h8, if_true, if_false, Int.reduceEq, reduceIte]; done) | (exfalso; omega))
          ·exact g_retb (by first | (simp only [namesI, h0, h1, h2, h3, h4, h5, h6, h7, h8, if_true, if_false, Int.reduceEq, reduceIte]; done) | (exfalso; omega))

noncomputable def oc45 : Orc where
 pure := fun f args => match f, args with
  | 145, [a0, a1, a2] => match dA tI a0, dA tI a1, dA tI a2 with
   | some x0, some x1, some x2 => some (.c (.bool (withinF x0 x1 x2)))
   | _, _, _ => none
  | 147, [a0, a1] => match dA tLook a0, dA tI a1 with
   | some x0, some x1 => some (.c (.bool (withinF x1 0 (x0.2.2.1 - 1))))
   | _, _ => none
  | _, _ => none
 heap := fun _ _ _ => none
def lc1_lv : LV := ⟨([]), []⟩
noncomputable def lc1_T (c : Int) (l : ELook) (f : EFn) : Tree :=
 .call 147 [.agg (Ty.enc tLook l), .c (.int .i64 c)] false (.c (.bool (withinF c 0 (l.2.2.1 - 1)))) <|
 .ite ((!(withinF c 0 (l.2.2.1 - 1))))
 (.need (inR .i64 (0 - (l.2.2.2.2.1.length : Int))) <|
  .call 145 [.c (.int .i64 c), .c (.int .i64 (0 - (l.2.2.2.2.1.length : Int))), .c (.int .i64 (-1))] false (.c (.bool (withinF c (0 - (l.2.2.2.2.1.length : Int)) (-1)))) <|
  .ret (.c (.bool (!(withinF c (0 - (l.2.2.2.2.1.length : Int)) (-1))))) [.cells 187 (Ty.enc tLook l), .cells 84 (Ty.enc tFn f)])
 (.ret (.c (.lit false)) [.cells 187 (Ty.enc tLook l), .cells 84 (Ty.enc tFn f)])
theorem lc1_T_ok (c : Int) (l : ELook) (f : EFn) : aRun Tryd.prog oc45 Tryd.f163 lc1_lv 3000 [.code (bodyOf Tryd.f163)] ([.c (.int .i64 c), .c (.ptr 0 0 0 0)] ++ List.replicate (Func.ntmps Tryd.f163 - 2) .junk) [.cells 187 (Ty.enc tLook l), .cells 84 (Ty.enc tFn f)] = lc1_T c l f := by kernel_rfl
theorem lc1_fun (c : Int) (l : ELook) (f : EFn) (hr : 0 ≤ l.2.2.1) : AFunH Tryd.prog 163 [.c (.int .i64 c), .c (.ptr 0 0 0 0)] [.cells 187 (Ty.enc tLook l), .cells 84 (Ty.enc tFn f)] (.c (.bool ((!withinF c 0 (l.2.2.1 - 1) && !withinF c (-(l.2.2.2.2.1.length : Int)) (-1))))) [.cells 187 (Ty.enc tLook l), .cells 84 (Ty.enc tFn f)] (List.range 2) :=
 AFunH.of oc45 lc1_lv 3000 Tryd.func163 mixed rfl (by decide) (Nat.le_of_ble_eq_true rfl) rfl rfl (Nat.le_refl _) _ (lc1_T_ok c l f) fun hF => by
  have hb : (l.2.2.2.2.1.length : Int) ≤ 9223372036854775807 := by have q := hF.blk (b := 0) (t := tLook) (x := l) rfl; have q2 := q.2.2.2.2.1.1; omega
  unfold lc1_T
  refine g_call (lreg_fun l c (by omega)) (fun h => nomatch h) ?_
  refine g_iteN (fun h0 => ?_) (fun h0 => ?_)
  ·refine g_need (i64_iff.2 (by omega)) ?_
   refine g_call (within_fun c (0 - (l.2.2.2.2.1.length : Int)) (-1)) (fun h => nomatch h) ?_
   exact g_rh [0, 1] (show ∀ k, k < 2 → ([0, 1] : List Nat)[k]? = some k by decide) (by decide) (by simp only [renA, ren1, renC, leAV, leA1, leC]; simp_all) rfl
  ·exact g_rh [0, 1] (show ∀ k, k < 2 → ([0, 1] : List Nat)[k]? = some k by decide) (by decide) (by simp only [renA, ren1, renC, leAV, leA1, leC]; simp_all) rfl

def fstF (q : Int → Bool) : Nat → List Int → Int
 | _, [] => -1
 | i, f :: r => if q f = true then (i : Int) else fstF q (i + 1) r
theorem fstF_ge {q : Int → Bool} : ∀ {l : List Int} {i : Nat}, decide (0 ≤ fstF q i l) = l.any q
 | [], i => rfl
 | f :: r, i => by
  unfold fstF
  rw [List.any_cons]
  split
  ·rename_i h; rw [h]; simp
  ·rename_i h; rw [fstF_ge (l := r)]; simp only [Bool.not_eq_true] at h; rw [h]; rfl
def outB (l : ELook) (c : Int) : Bool := !withinF c 0 (l.2.2.1 - 1) && !withinF c (-(l.2.2.2.2.1.length : Int)) (-1)
noncomputable def oc46 : Orc where
 pure := fun f args => match f, args with
  | _, _ => none
 heap := fun f args H => match f, args with
  | 163, [a0, .one (.c (.ptr 0 0 0 0))] => match H with
   | [b0, b1] => (match dA tI a0, dB 187 tLook b0, dB 84 tFn b1 with
    | some x0, some y0, some y1 => some (.c (.bool ((!withinF x0 0 (y0.2.2.1 - 1) && !withinF x0 (-(y0.2.2.2.2.1.length : Int)) (-1)))), [b0, b1], List.range 2)
    | _, _, _ => none)
   | _ => none
  | _, _ => none
def idxC_lv : LV := ⟨(true :: true :: F4 (false :: true :: true :: F8 (F2 ([])))), []⟩
noncomputable def idxC_T (xs : List Int) (l : ELook) (f : EFn) : Tree :=
 .stop (lp (bodyOf Tryd.f93) 0) (.c (.ro tI xs) :: .c (.fnc (.fn0 163) (.ptr 0 0 0 0)) :: J4 (.junk :: .c (.int .i64 (xs.length : Int)) :: .c (.int .i64 0) :: J8 (J2 ([])))) [.cells 187 (Ty.enc tLook l), .cells 84 (Ty.enc tFn f)]
theorem idxC_T_ok (xs : List Int) (l : ELook) (f : EFn) : aRun Tryd.prog oc46 Tryd.f93 idxC_lv 3000 [.code (bodyOf Tryd.f93)] ([.c (.ro tI xs), .c (.fnc (.fn0 163) (.ptr 0 0 0 0))] ++ List.replicate (Func.ntmps Tryd.f93 - 2) .junk) [.cells 187 (Ty.enc tLook l), .cells 84 (Ty.enc tFn f)] = idxC_T xs l f := by kernel_rfl
noncomputable def idxC_l0_R (xs : List Int) (l : ELook) (f : EFn) (i : Nat) : Tree :=
 .ite (decide (((i : Nat) : Int) < (xs.length : Int)))
 (.need ((0 : Int) ≤ ((i : Nat) : Int) ∧ (((i : Nat) : Int) : Int) < (xs.length : Int)) <|
  .need (i < xs.length) <|
  .callH 163 [.c (.int .i64 (xs.getD i tI.dflt)), .c (.ptr 0 0 0 0)] [.cells 187 (Ty.enc tLook l), .cells 84 (Ty.enc tFn f)] (.c (.bool (!withinF (xs.getD i tI.dflt) 0 (l.2.2.1 - 1) && !withinF (xs.getD i tI.dflt) (-(l.2.2.2.2.1.length : Int)) (-1)))) [.cells 187 (Ty.enc tLook l), .cells 84 (Ty.enc tFn f)] [0, 1] <|
  .ite ((!withinF (xs.getD i tI.dflt) 0 (l.2.2.1 - 1) && !withinF (xs.getD i tI.dflt) (-(l.2.2.2.2.1.length : Int)) (-1)))
  (.ret (.c (.int .i64 ((i : Nat) : Int))) [.cells 187 (Ty.enc tLook l), .cells 84 (Ty.enc tFn f)])
  (.need (inR .i64 (((i : Nat) : Int) + 1)) <|
  .stop (lp (bodyOf Tryd.f93) 0) (.c (.ro tI xs) :: .c (.fnc (.fn0 163) (.ptr 0 0 0 0)) :: J4 (.junk :: .c (.int .i64 (xs.length : Int)) :: .c (.int .i64 (((i : Nat) : Int) + 1)) :: J8 (J2 ([])))) [.cells 187 (Ty.enc tLook l), .cells 84 (Ty.enc tFn f)]))
 (.ret (.c (.int .i64 (-1))) [.cells 187 (Ty.enc tLook l), .cells 84 (Ty.enc tFn f)])
theorem idxC_l0_R_ok (xs : List Int) (l : ELook) (f : EFn) (i : Nat) : aRound Tryd.prog oc46 Tryd.f93 idxC_lv 3000 (lp (bodyOf Tryd.f93) 0) (.c (.ro tI xs) :: .c (.fnc (.fn0 163) (.ptr 0 0 0 0)) :: J4 (.junk :: .c (.int .i64 (xs.length : Int)) :: .c (.int .i64 ((i : Nat) : Int)) :: J8 (J2 ([])))) [.cells 187 (Ty.enc tLook l), .cells 84 (Ty.enc tFn f)] = idxC_l0_R xs l f i := by kernel_rfl
theorem idxC_l0 (xs : List Int) (l : ELook) (f : EFn) (i : Nat) (hl : xs.length ≤ 9223372036854775807) (hr : 0 ≤ l.2.2.1) : RunN 2 Tryd.prog 93 (retH 2 (.c (.int .i64 (fstF (outB l) i (xs.drop i)))) [.cells 187 (Ty.enc tLook l), .cells 84 (Ty.enc tFn f)]) (lp (bodyOf Tryd.f93) 0) (.c (.ro tI xs) :: .c (.fnc (.fn0 163) (.ptr 0 0 0 0)) :: J4 (.junk :: .c (.int .i64 (xs.length : Int)) :: .c (.int .i64 ((i : Nat) : Int)) :: J8 (J2 ([])))) [.cells 187 (Ty.enc tLook l), .cells 84 (Ty.enc tFn f)] :=
 Run.roundA oc46 idxC_lv 3000 Tryd.func93 mixed (idxC_l0_R xs l f i) (idxC_l0_R_ok xs l f i) (by
  unfold idxC_l0_R
  refine g_iteD (fun h0 => ?_) (fun h0 => ?_)
  ·refine g_need (by omega) ?_
   refine g_need (by omega) ?_
   refine g_callH (lc1_fun (xs.getD i tI.dflt) l f hr) ?_
   refine g_ite (fun h1 => ?_) (fun h1 => ?_)
   ·exact g_rh [0, 1] (show ∀ k, k < 2 → ([0, 1] : List Nat)[k]? = some k by decide) (by decide) (by simp only [renA, ren1, renC, leAV, leA1, leC]; refine ⟨trivial, ?_⟩; first | (rw [dropCons (α := Int) (Ty.dflt tI) (by omega)]; simp only [fstF, outB, h0, h1, if_true]; done) | (rw [List.drop_eq_nil_of_le (by omega)]; rfl)) rfl
   ·refine g_need (i64_iff.2 (by omega)) ?_
    refine g_stop (RunN.keep [0, 1] (true :: true :: F4 (false :: true :: true :: F8 (F2 ([])))) (show ∀ k, k < 2 → ([0, 1] : List Nat)[k]? = some k by decide) (by decide) rfl rfl ?_)
    have := idxC_l0 xs l f (i + 1) hl hr; rw [dropCons (α := Int) (Ty.dflt tI) (by omega)]; simp only [fstF, outB, h0, h1, if_false, Bool.false_eq_true]; exact this
  ·exact g_rh [0, 1] (show ∀ k, k < 2 → ([0, 1] : List Nat)[k]? = some k by decide) (by decide) (by simp only [renA, ren1, renC, leAV, leA1, leC]; refine ⟨trivial, ?_⟩; first | (rw [dropCons (α := Int) (Ty.dflt tI) (by omega)]; simp only [fstF, outB, h0, if_true]; done) | (rw [List.drop_eq_nil_of_le (by omega)]; rfl)) rfl
  )
 termination_by xs.length - i
 decreasing_by all_goals omega
theorem idxC_fun (xs : List Int) (l : ELook) (f : EFn) (hr : 0 ≤ l.2.2.1) : AFunH Tryd.prog 93 [.c (.ro tI xs), .c (.fnc (.fn0 163) (.ptr 0 0 0 0))] [.cells 187 (Ty.enc tLook l), .cells 84 (Ty.enc tFn f)] (.c (.int .i64 (fstF (outB l) 0 xs))) [.cells 187 (Ty.enc tLook l), .cells 84 (Ty.enc tFn f)] (List.range 2) :=
 AFunH.of oc46 idxC_lv 3000 Tryd.func93 mixed rfl (by decide) (Nat.le_of_ble_eq_true rfl) rfl rfl (Nat.le_refl _) _ (idxC_T_ok xs l f) fun hF => by
  have hl : xs.length ≤ 9223372036854775807 := (hF.ro (i := 0) rfl).1
  unfold idxC_T
  refine g_stop (RunN.keep [0, 1] (true :: true :: F4 (false :: true :: true :: F8 (F2 ([])))) (show ∀ k, k < 2 → ([0, 1] : List Nat)[k]? = some k by decide) (by decide) rfl rfl ?_)
  exact idxC_l0 xs l f 0 hl hr

noncomputable def oc47 : Orc where
 pure := fun f args => match f, args with
  | _, _ => none
 heap := fun f args H => match f, args with
  | 93, [a0, .one (.c (.fnc (.fn0 163) (.ptr 0 0 0 0)))] => match H with
   | [b0, b1] => (match dA (.slice tI) a0, dB 187 tLook b0, dB 84 tFn b1 with
    | some x0, some y0, some y1 => some (.c (.int .i64 (fstF (outB y0) 0 x0)), [b0, b1], List.range 2)
    | _, _, _ => none)
   | _ => none
  | _, _ => none
def conC_lv : LV := ⟨([]), []⟩
noncomputable def conC_T (xs : List Int) (l : ELook) (f : EFn) : Tree :=
 .callH 93 [.c (.ro tI xs), .c (.fnc (.fn0 163) (.ptr 0 0 0 0))] [.cells 187 (Ty.enc tLook l), .cells 84 (Ty.enc tFn f)] (.c (.int .i64 (fstF (outB l) 0 xs))) [.cells 187 (Ty.enc tLook l), .cells 84 (Ty.enc tFn f)] [0, 1] <|
 .ret (.c (.bool (decide ((0 : Int) ≤ fstF (outB l) 0 xs)))) [.cells 187 (Ty.enc tLook l), .cells 84 (Ty.enc tFn f)]
theorem conC_T_ok (xs : List Int) (l : ELook) (f : EFn) : aRun Tryd.prog oc47 Tryd.f56 conC_lv 3000 [.code (bodyOf Tryd.f56)] ([.c (.ro tI xs), .c (.fnc (.fn0 163) (.ptr 0 0 0 0))] ++ List.replicate (Func.ntmps Tryd.f56 - 2) .junk) [.cells 187 (Ty.enc tLook l), .cells 84 (Ty.enc tFn f)] = conC_T xs l f := by kernel_rfl
theorem conC_fun (xs : List Int) (l : ELook) (f : EFn) (hr : 0 ≤ l.2.2.1) : AFunH Tryd.prog 56 [.c (.ro tI xs), .c (.fnc (.fn0 163) (.ptr 0 0 0 0))] [.cells 187 (Ty.enc tLook l), .cells 84 (Ty.enc tFn f)] (.c (.bool (List.any xs (outB l)))) [.cells 187 (Ty.enc tLook l), .cells 84 (Ty.enc tFn f)] (List.range 2) :=
 AFunH.of oc47 conC_lv 3000 Tryd.func56 mixed rfl (by decide) (Nat.le_of_ble_eq_true rfl) rfl rfl (Nat.le_refl _) _ (conC_T_ok xs l f) fun hF => by
  unfold conC_T
  refine g_callH (idxC_fun xs l f hr) ?_
  exact g_rh [0, 1] (show ∀ k, k < 2 → ([0, 1] : List Nat)[k]? = some k by decide) (by decide) (by simp only [renA, ren1, renC, leAV, leA1, leC]; exact fstF_ge) rfl

noncomputable def oc48 : Orc where
 pure := fun f args => match f, args with
  | _, _ => none
 heap := fun f args H => match f, args with
  | 56, [a0, .one (.c (.fnc (.fn0 163) (.ptr 0 0 0 0)))] => match H with
   | [b0, b1] => (match dA (.slice tI) a0, dB 187 tLook b0, dB 84 tFn b1 with
    | some x0, some y0, some y1 => some (.c (.bool (List.any x0 (outB y0))), [b0, b1], List.range 2)
    | _, _, _ => none)
   | _ => none
  | _, _ => none
def lcaught_lv : LV := ⟨([]), []⟩
noncomputable def lcaught_T (l : ELook) (f : EFn) : Tree :=
 .callH 56 [.c (.ro tI f.2.2.2.1), .c (.fnc (.fn0 163) (.ptr 0 0 0 0))] [.cells 187 (Ty.enc tLook l), .cells 84 (Ty.enc tFn f)] (.c (.bool (List.any f.2.2.2.1 (outB l)))) [.cells 187 (Ty.enc tLook l), .cells 84 (Ty.enc tFn f)] [0, 1] <|
 .ret (.c (.bool (!(List.any f.2.2.2.1 (outB l))))) [.cells 187 (Ty.enc tLook l), .cells 84 (Ty.enc tFn f)]
theorem lcaught_T_ok (l : ELook) (f : EFn) : aRun Tryd.prog oc48 Tryd.f148 lcaught_lv 3000 [.code (bodyOf Tryd.f148)] ([.agg (tLook.enc l), .agg (tFn.enc f)] ++ List.replicate (Func.ntmps Tryd.f148 - 2) .junk) [] = lcaught_T l f := by kernel_rfl
theorem lcaught_fun (l : ELook) (f : EFn) (hr : 0 ≤ l.2.2.1) : AFun Tryd.prog 148 [.agg (tLook.enc l), .agg (tFn.enc f)] (.c (.bool (caughtF l.2.2.1 l.2.2.2.2.1.length f.2.2.2.1))) :=
 AFun.of oc48 lcaught_lv 3000 Tryd.func148 mixed rfl (by decide) (Nat.le_of_ble_eq_true rfl) _ (lcaught_T_ok l f) fun hF => by
  unfold lcaught_T
  refine g_callH (conC_fun f.2.2.2.1 l f hr) ?_
  exact g_retb (by rfl)

def orderE (l : ELook) (a : Int) (o : EOrd) : Bool := orderF (l.1.1.map toFn) (lkE l) l.2.2.2.1 a (toOrd o)
theorem formS_some {op : Int} {a b c : UInt8} (h : formF op = some (a, b, c)) : formS op = ⟨#[a, b, c]⟩ := by unfold formS; rw [h]
theorem formS_none {op : Int} (h : formF op = none) : formS op = ByteArray.empty := by unfold formS; rw [h]; rfl
def orderT (l : ELook) (a : Int) (o : EOrd) : Bool := if o.1 = 14 then decide (o.2.1 ≤ a) else if o.1 = 19 then decide (o.2.2.1 + o.2.2.2.1 ≤ l.2.2.1) else if o.1 = 27 then withinF (o.2.2.1 + o.2.2.2.1) 0 (l.2.2.1 - 1) else if o.1 = 26 then caughtF l.2.2.1 l.2.2.2.2.1.length (l.1.1.getD o.2.2.1.toNat tFn.dflt).2.2.2.1 else if o.1 = 32 then l.2.2.2.1 else true
def namesE (l : ELook) (k : Nat) (o : EOrd) (n : Int) : Bool := namesI l (UInt8.toNat ((formS o.1)[k]!) : Int) n
theorem orderE_eq (l : ELook) (a : Int) (o : EOrd) : orderE l a o = (!(decide (formS o.1 = ByteArray.empty)) && (withinF o.2.2.2.2 0 2000 && (namesE l 0 o o.2.1 && (namesE l 1 o o.2.2.1 && (namesE l 2 o o.2.2.2.1 && orderT l a o))))) := by
 unfold orderE orderF
 simp only [toOrd]
 cases hf : formF o.1 with
 | none => rw [formS_none hf]; rfl
 | some F =>
  obtain ⟨x, y, z⟩ := F
  have hs := formS_some hf
  have hne : formS o.1 ≠ ByteArray.empty := by rw [hs]; intro h; have := congrArg ByteArray.size h; simp [ByteArray.size] at this
  rw [decide_eq_false hne]
  have e0 : namesE l 0 o o.2.1 = namesF (lkE l) x o.2.1 := by unfold namesE; rw [hs]; exact namesI_eq l x _
  have e1 : namesE l 1 o o.2.2.1 = namesF (lkE l) y o.2.2.1 := by unfold namesE; rw [hs]; exact namesI_eq l y _
  have e2 : namesE l 2 o o.2.2.2.1 = namesF (lkE l) z o.2.2.2.1 := by unfold namesE; rw [hs]; exact namesI_eq l z _
  rw [e0, e1, e2]
  simp only [Bool.not_false, Bool.true_and]
  cases hb : namesF (lkE l) y o.2.2.1 with
  | false => simp
  | true =>
   have eT : ordTailF (l.1.1.map toFn) (lkE l) l.2.2.2.1 a (toOrd o) = orderT l a o := by
    unfold ordTailF toOrd orderT lkE
    simp only
    by_cases h26 : o.1 = 26
    ·simp only [h26, Int.reduceEq, if_false, if_true]
     have h102 : y = 102 := by
      rw [h26] at hf
      have hf : some _ = some (x, y, z) := hf
      injection hf with hf
      injection hf with _ hf
      injection hf with hf _
      exact hf.symm
     subst h102
     have h1 : withinF o.2.2.1 1 ((l.1.1.length : Int) - 1) = true := hb
     rw [within_iff] at h1
     have hlt : o.2.2.1.toNat < l.1.1.length := by omega
     rw [List.getElem?_map, List.getElem?_eq_getElem hlt, List.getD_eq_getElem?_getD, List.getElem?_eq_getElem hlt]
     rfl
    ·simp only [h26, if_false]
   have eT : ordTailF (l.1.1.map toFn) (lkE l) l.2.2.2.1 a ⟨o.1, o.2.1, o.2.2.1, o.2.2.2.1, o.2.2.2.2⟩ = orderT l a o := eT
   rw [eT]
   simp only [Bool.and_assoc, Bool.true_and]
theorem form_bytes {op : Int} (h : formS op ≠ ByteArray.empty) : (formS op).size = 3 := by
 cases hf : formF op with
 | none => exact absurd (formS_none hf) h
 | some F => obtain ⟨x, y, z⟩ := F; rw [formS_some hf]; rfl
theorem names_26 {l : ELook} {o : EOrd} (ho : o.1 = 26) (h : namesI l (UInt8.toNat ((formS o.1)[1]!) : Int) o.2.2.1 = true) : 1 ≤ o.2.2.1 ∧ o.2.2.1 < (l.1.1.length : Int) := by
 rw [ho] at h
 have h : withinF o.2.2.1 1 ((l.1.1.length : Int) - 1) = true := h
 rw [within_iff] at h
 omega
theorem names_19 {l : ELook} {o : EOrd} (ho : o.1 = 19) (h1 : namesI l (UInt8.toNat ((formS o.1)[1]!) : Int) o.2.2.1 = true) (h2 : namesI l (UInt8.toNat ((formS o.1)[2]!) : Int) o.2.2.2.1 = true) : 0 ≤ o.2.2.1 ∧ o.2.2.1 ≤ l.2.2.1 ∧ 0 ≤ o.2.2.2.1 ∧ o.2.2.2.1 ≤ l.2.2.1 := by
 rw [ho] at h1 h2
 have h1 : withinF o.2.2.1 0 l.2.2.1 = true := h1
 have h2 : withinF o.2.2.2.1 0 l.2.2.1 = true := h2
 rw [within_iff] at h1 h2
 omega
theorem names_27 {l : ELook} {o : EOrd} (ho : o.1 = 27) (h1 : namesI l (UInt8.toNat ((formS o.1)[1]!) : Int) o.2.2.1 = true) (h2 : namesI l (UInt8.toNat ((formS o.1)[2]!) : Int) o.2.2.2.1 = true) : 0 ≤ o.2.2.1 ∧ o.2.2.1 ≤ l.2.2.1 ∧ 0 ≤ o.2.2.2.1 ∧ o.2.2.2.1 ≤ l.2.2.1 := by
 rw [ho] at h1 h2
 have h1 : withinF o.2.2.1 0 l.2.2.1 = true := h1
 have h2 : withinF o.2.2.2.1 0 l.2.2.1 = true := h2
 rw [within_iff] at h1 h2
 omega
noncomputable def oc49 : Orc where
 pure := fun f args => match f, args with
  | 144, [a0] => match dA tI a0 with
   | some x0 => some (.c (.str (formS x0)))
   | _ => none
  | 145, [a0, a1, a2] => match dA tI a0, dA tI a1, dA tI a2 with
   | some x0, some x1, some x2 => some (.c (.bool (withinF x0 x1 x2)))
   | _, _, _ => none
  | 146, [a0, a1, a2] => match dA tLook a0, dA (.int .u8) a1, dA tI a2 with
   | some x0, some x1, some x2 => some (.c (.bool (namesI x0 x1 x2)))
   | _, _, _ => none
  | 147, [a0, a1] => match dA tLook a0, dA tI a1 with
   | some x0, some x1 => some (.c (.bool (withinF x1 0 (x0.2.2.1 - 1))))
   | _, _ => none
  | 148, [a0, a1] => match dA tLook a0, dA tFn a1 with
   | some x0, some x1 => some (.c (.bool (caughtF x0.2.2.1 x0.2.2.2.2.1.length x1.2.2.2.1)))
   | _, _ => none
  | _, _ => none
 heap := fun _ _ _ => none
def lorder_lv : LV := ⟨([]), []⟩
noncomputable def lorder_T (l : ELook) (a : Int) (o : EOrd) : Tree :=
 .call 144 [.c (.int .i64 o.1)] false (.c (.str (formS o.1))) <|
 .ite (decide (formS o.1 = ByteArray.empty))
 (.ret (.c (.lit false)) [.cells 187 (Ty.enc tLook l), .cells 189 (Ty.enc tOrd o)])
 (.call 145 [.c (.int .i64 o.2.2.2.2), .c (.int .i64 0), .c (.int .i64 2000)] false (.c (.bool (withinF o.2.2.2.2 0 2000))) <|
  .ite ((!(withinF o.2.2.2.2 0 2000)))
  (.ret (.c (.lit false)) [.cells 187 (Ty.enc tLook l), .cells 189 (Ty.enc tOrd o)])
  (.need ((0 : Int) ≤ 0 ∧ (0 : Int) < ((formS o.1).size : Int)) <|
  .call 146 [.agg (Ty.enc tLook l), .c (.int .u8 (UInt8.toNat ((formS o.1)[0]!) : Int)), .c (.int .i64 o.2.1)] false (.c (.bool (namesI l (UInt8.toNat ((formS o.1)[0]!) : Int) o.2.1))) <|
  .ite ((!(namesI l (UInt8.toNat ((formS o.1)[0]!) : Int) o.2.1)))
  (.ret (.c (.lit false)) [.cells 187 (Ty.enc tLook l), .cells 189 (Ty.enc tOrd o)])
  (.need ((0 : Int) ≤ 1 ∧ (1 : Int) < ((formS o.1).size : Int)) <|
   .call 146 [.agg (Ty.enc tLook l), .c (.int .u8 (UInt8.toNat ((formS o.1)[1]!) : Int)), .c (.int .i64 o.2.2.1)] false (.c (.bool (namesI l (UInt8.toNat ((formS o.1)[1]!) : Int) o.2.2.1))) <|
   .ite ((!(namesI l (UInt8.toNat ((formS o.1)[1]!) : Int) o.2.2.1)))
   (.ret (.c (.lit false)) [.cells 187 (Ty.enc tLook l), .cells 189 (Ty.enc tOrd o)])
   (.need ((0 : Int) ≤ 2 ∧ (2 : Int) < ((formS o.1).size : Int)) <|
   .call 146 [.agg (Ty.enc tLook l), .c (.int .u8 (UInt8.toNat ((formS o.1)[2]!) : Int)), .c (.int .i64 o.2.2.2.1)] false (.c (.bool (namesI l (UInt8.toNat ((formS o.1)[2]!) : Int) o.2.2.2.1))) <|
   .ite ((!(namesI l (UInt8.toNat ((formS o.1)[2]!) : Int) o.2.2.2.1)))
   (.ret (.c (.lit false)) [.cells 187 (Ty.enc tLook l), .cells 189 (Ty.enc tOrd o)])
   (.ite (decide (o.1 = 14))
    (.ret (.c (.bool (decide (o.2.1 ≤ a)))) [.cells 187 (Ty.enc tLook l), .cells 189 (Ty.enc tOrd o)])
    (.ite (decide (o.1 = 19))
    (.need (inR .i64 (o.2.2.1 + o.2.2.2.1)) <|
     .ret (.c (.bool (decide ((o.2.2.1 + o.2.2.2.1) ≤ l.2.2.1)))) [.cells 187 (Ty.enc tLook l), .cells 189 (Ty.enc tOrd o)])
    (.ite (decide (o.1 = 27))
     (.need (inR .i64 (o.2.2.1 + o.2.2.2.1)) <|
     .call 147 [.agg (Ty.enc tLook l), .c (.int .i64 (o.2.2.1 + o.2.2.2.1))] false (.c (.bool (withinF (o.2.2.1 + o.2.2.2.1) 0 (l.2.2.1 - 1)))) <|
     .ret (.c (.bool (withinF (o.2.2.1 + o.2.2.2.1) 0 (l.2.2.1 - 1)))) [.cells 187 (Ty.enc tLook l), .cells 189 (Ty.enc tOrd o)])
     (.ite (decide (o.1 = 26))
     (.need ((0 : Int) ≤ o.2.2.1 ∧ (o.2.2.1 : Int) < (l.1.1.length : Int)) <|
      .need ((Int.toNat o.2.2.1) < l.1.1.length) <|
      .call 148 [.agg (Ty.enc tLook l), .agg [.int .i64 (l.1.1.getD (Int.toNat o.2.2.1) tFn.dflt).1, .int .i64 (l.1.1.getD (Int.toNat o.2.2.1) tFn.dflt).2.1, .bool (l.1.1.getD (Int.toNat o.2.2.1) tFn.dflt).2.2.1, .ro tI (l.1.1.getD (Int.toNat o.2.2.1) tFn.dflt).2.2.2.1, .ro tOrd (l.1.1.getD (Int.toNat o.2.2.1) tFn.dflt).2.2.2.2]] false (.c (.bool (caughtF l.2.2.1 l.2.2.2.2.1.length (l.1.1.getD (Int.toNat o.2.2.1) tFn.dflt).2.2.2.1))) <|
      .ret (.c (.bool (caughtF l.2.2.1 l.2.2.2.2.1.length (l.1.1.getD (Int.toNat o.2.2.1) tFn.dflt).2.2.2.1))) [.cells 187 (Ty.enc tLook l), .cells 189 (Ty.enc tOrd o)])
     (.ite (decide (o.1 = 32))
      (.ret (.c (.bool l.2.2.2.1)) [.cells 187 (Ty.enc tLook l), .cells 189 (Ty.enc tOrd o)])
      (.ret (.c (.lit true)) [.cells 187 (Ty.enc tLook l), .cells 189 (Ty.enc tOrd o)]))))))))))
theorem lorder_T_ok (l : ELook) (a : Int) (o : EOrd) : aRun Tryd.prog oc49 Tryd.f121 lorder_lv 3000 [.code (bodyOf Tryd.f121)] ([.agg (tLook.enc l), .c (.int .i64 a), .agg (tOrd.enc o)] ++ List.replicate (Func.ntmps Tryd.f121 - 3) .junk) [] = lorder_T l a o := by kernel_rfl
theorem lorder_fun (l : ELook) (a : Int) (o : EOrd) (hr : 0 ≤ l.2.2.1 ∧ l.2.2.1 ≤ 60) : AFun Tryd.prog 121 [.agg (tLook.enc l), .c (.int .i64 a), .agg (tOrd.enc o)] (.c (.bool (orderE l a o))) :=
 AFun.of oc49 lorder_lv 3000 Tryd.func121 mixed rfl (by decide) (Nat.le_of_ble_eq_true rfl) _ (lorder_T_ok l a o) fun hF => by
  unfold lorder_T
  refine g_call (form_fun o.1) (fun h => nomatch h) ?_
  refine g_iteD (fun h0 => ?_) (fun h0 => ?_)
  ·exact g_retl (by rw [orderE_eq]; first | (simp only [namesE, h0, if_true, if_false, Int.reduceEq, decide_true, decide_false, Bool.not_true, Bool.not_false, Bool.false_and, Bool.true_and, Bool.and_true, reduceIte]; done) | (simp only [namesE, h0, h1, h2, h3, h4, decide_false, Bool.not_false, Bool.true_and]; simp only [orderT, h0, if_true, if_false, Int.reduceEq, reduceIte]; done))
  ·refine g_call (within_fun o.2.2.2.2 0 2000) (fun h => nomatch h) ?_
   refine g_iteN (fun h1 => ?_) (fun h1 => ?_)
   ·exact g_retl (by rw [orderE_eq]; first | (simp only [namesE, h0, h1, if_true, if_false, Int.reduceEq, decide_true, decide_false, Bool.not_true, Bool.not_false, Bool.false_and, Bool.true_and, Bool.and_true, reduceIte]; done) | (simp only [namesE, h0, h1, h2, h3, h4, decide_false, Bool.not_false, Bool.true_and]; simp only [orderT, h0, h1, if_true, if_false, Int.reduceEq, reduceIte]; done))
   ·refine g_need (by first | omega | (rw [i64_iff]; constructor <;> omega) | (have q := form_bytes h0; omega) | (have q := names_26 (by assumption) h3; omega) | (have q := names_19 (by assumption) h3 h4; rw [i64_iff]; omega) | (have q := names_27 (by assumption) h3 h4; rw [i64_iff]; omega)) ?_
    refine g_call (lnames_fun l (UInt8.toNat ((formS o.1)[0]!) : Int) o.2.1 (by omega)) (fun h => nomatch h) ?_
    refine g_iteN (fun h2 => ?_) (fun h2 => ?_)
    ·exact g_retl (by rw [orderE_eq]; first | (simp only [namesE, h0, h1, h2, if_true, if_false, Int.reduceEq, decide_true, decide_false, Bool.not_true, Bool.not_false, Bool.false_and, Bool.true_and, Bool.and_true, reduceIte]; done) | (simp only [namesE, h0, h1, h2, h3, h4, decide_false, Bool.not_false, Bool.true_and]; simp only [orderT, h0, h1, h2, if_true, if_false, Int.reduceEq, reduceIte]; done))
    ·refine g_need (by first | omega | (rw [i64_iff]; constructor <;> omega) | (have q := form_bytes h0; omega) | (have q := names_26 (by assumption) h3; omega) | (have q := names_19 (by assumption) h3 h4; rw [i64_iff]; omega) | (have q := names_27 (by assumption) h3 h4; rw [i64_iff]; omega)) ?_
     refine g_call (lnames_fun l (UInt8.toNat ((formS o.1)[1]!) : Int) o.2.2.1 (by omega)) (fun h => nomatch h) ?_
     refine g_iteN (fun h3 => ?_) (fun h3 => ?_)
     ·exact g_retl (by rw [orderE_eq]; first | (simp only [namesE, h0, h1, h2, h3, if_true, if_false, Int.reduceEq, decide_true, decide_false, Bool.not_true, Bool.not_false, Bool.false_and, Bool.true_and, Bool.and_true, reduceIte]; done) | (simp only [namesE, h0, h1, h2, h3, h4, decide_false, Bool.not_false, Bool.true_and]; simp only [orderT, h0, h1, h2, h3, if_true, if_false, Int.reduceEq, reduceIte]; done))
     ·refine g_need (by first | omega | (rw [i64_iff]; constructor <;> omega) | (have q := form_bytes h0; omega) | (have q := names_26 (by assumption) h3; omega) | (have q := names_19 (by assumption) h3 h4; rw [i64_iff]; omega) | (have q := names_27 (by assumption) h3 h4; rw [i64_iff]; omega)) ?_
      refine g_call (lnames_fun l (UInt8.toNat ((formS o.1)[2]!) : Int) o.2.2.2.1 (by omega)) (fun h => nomatch h) ?_
      refine g_iteN (fun h4 => ?_) (fun h4 => ?_)
      ·exact g_retl (by rw [orderE_eq]; first | (simp only [namesE, h0, h1, h2, h3, h4, if_true, if_false, Int.reduceEq, decide_true, decide_false, Bool.not_true, Bool.not_false, Bool.false_and, Bool.true_and, Bool.and_true, reduceIte]; done) | (simp only [namesE, h0, h1, h2, h3, h4, decide_false, Bool.not_false, Bool.true_and]; simp only [orderT, h0, h1, h2, h3, h4, if_true, if_false, Int.reduceEq, reduceIte]; done))
      ·refine g_iteD (fun h5 => ?_) (fun h5 => ?_)
       ·exact g_retb (by rw [orderE_eq]; first | (simp only [namesE, h0, h1, h2, h3, h4, h5, if_true, if_false, Int.reduceEq, decide_true, decide_false, Bool.not_true, Bool.not_false, Bool.false_and, Bool.true_and, Bool.and_true, reduceIte]; done) | (simp only [namesE, h0, h1, h2, h3, h4, decide_false, Bool.not_false, Bool.true_and]; simp only [orderT, h0, h1, h2, h3, h4, h5, if_true, if_false, Int.reduceEq, reduceIte]; done))
       ·refine g_iteD (fun h6 => ?_) (fun h6 => ?_)
        ·refine g_need (by first | omega | (rw [i64_iff]; constructor <;> omega) | (have q := form_bytes h0; omega) | (have q := names_26 (by assumption) h3; omega) | (have q := names_19 (by assumption) h3 h4; rw [i64_iff]; omega) | (have q := names_27 (by assumption) h3 h4; rw [i64_iff]; omega)) ?_
         exact g_retb (by rw [orderE_eq]; first | (simp only [namesE, h0, h1, h2, h3, h4, h5, h6, if_true, if_false, Int.reduceEq, decide_true, decide_false, Bool.not_true, Bool.not_false, Bool.false_and, Bool.true_and, Bool.and_true, reduceIte]; done) | (simp only [namesE, h0, h1, h2, h3, h4, decide_false, Bool.not_false, Bool.true_and]; simp only [orderT, h0, h1, h2, h3, h4, h5, h6, if_true, if_false, Int.reduceEq, reduceIte]; done))
        ·refine g_iteD (fun h7 => ?_) (fun h7 => ?_)
         ·refine g_need (by first | omega | (rw [i64_iff]; constructor <;> omega) | (have q := form_bytes h0; omega) | (have q := names_26 (by assumption) h3; omega) | (have q := names_19 (by assumption) h3 h4; rw [i64_iff]; omega) | (have q := names_27 (by assumption) h3 h4; rw [i64_iff]; omega)) ?_
          refine g_call (lreg_fun l (o.2.2.1 + o.2.2.2.1) (by omega)) (fun h => nomatch h) ?_
          exact g_retb (by rw [orderE_eq]; first | (simp only [namesE, h0, h1, h2, h3, h4, h5, h6, h7, if_true, if_false, Int.reduceEq, decide_true, decide_false, Bool.not_true, Bool.not_false, Bool.false_and, Bool.true_and, Bool.and_true, reduceIte]; done) | (simp only [namesE, h0, h1, h2, h3, h4, decide_false, Bool.not_false, Bool.true_and]; simp only [orderT, h0, h1, h2, h3, h4, h5, h6, h7, if_true, if_false, Int.reduceEq, reduceIte]; done))
         ·refine g_iteD (fun h8 => ?_) (fun h8 => ?_)
          ·refine g_need (by first | omega | (rw [i64_iff]; constructor <;> omega) | (have q := form_bytes h0; omega) | (have q := names_26 (by assumption) h3; omega) | (have q := names_19 (by assumption) h3 h4; rw [i64_iff]; omega) | (have q := names_27 (by assumption) h3 h4; rw [i64_iff]; omega)) ?_
           refine g_need (by first | omega | (rw [i64_iff]; constructor <;> omega) | (have q := form_bytes h0; omega) | (have q := names_26 (by assumption) h3; omega) | (have q := names_19 (by assumption) h3 h4; rw [i64_iff]; omega) | (have q := names_27 (by assumption) h3 h4; rw [i64_iff]; omega)) ?_
           refine g_call (lcaught_fun l (l.1.1.getD (Int.toNat o.2.2.1) tFn.dflt) (by omega)) (fun h => nomatch h) ?_
           exact g_retb (by rw [orderE_eq]; first | (simp only [namesE, h0, h1, h2, h3, h4, h5, h6, h7, h8, if_true, if_false, Int.reduceEq, decide_true, decide_false, Bool.not_true, Bool.not_false, Bool.false_and, Bool.true_and, Bool.and_true, reduceIte]; done) | (simp only [namesE, h0, h1, h2, h3, h4, decide_false, Bool.not_false, Bool.true_and]; simp only [orderT, h0, h1, h2, h3, h4, h5, h6, h7, h8, if_true, if_false, Int.reduceEq, reduceIte]; done))
          ·refine g_iteD (fun h9 => ?_) (fun h9 => ?_)
           ·exact g_retb (by rw [orderE_eq]; first | (simp only [namesE, h0, h1, h2, h3, h4, h5, h6, h7, h8, h9, if_true, if_false, Int.reduceEq, decide_true, decide_false, Bool.not_true, Bool.not_false, Bool.false_and, Bool.true_and, Bool.and_true, reduceIte]; done) | (simp only [namesE, h0, h1, h2, h3, h4, decide_false, Bool.not_false, Bool.true_and]; simp only [orderT, h0, h1, h2, h3, h4, h5, h6, h7, h8, h9, if_true, if_false, Int.reduceEq, reduceIte]; done))
           ·exact g_retl (by rw [orderE_eq]; first | (simp only [namesE, h0, h1, h2, h3, h4, h5, h6, h7, h8, h9, if_true, if_false, Int.reduceEq, decide_true, decide_false, Bool.not_true, Bool.not_false, Bool.false_and, Bool.true_and, Bool.and_true, reduceIte]; done) | (simp only [namesE, h0, h1, h2, h3, h4, decide_false, Bool.not_false, Bool.true_and]; simp only [orderT, h0, h1, h2, h3, h4, h5, h6, h7, h8, h9, if_true, if_false, Int.reduceEq, reduceIte]; done))

def ordsE (l : ELook) : Nat → List EOrd → Bool
 | _, [] => true
 | i, o :: r => if orderE l (i : Int) o = true then ordsE l (i + 1) r else false
theorem ordsE_iff {l : ELook} : ∀ {os : List EOrd} {i : Nat}, ordsE l i os = true ↔ ∀ (j : Nat) (o : EOrd), os[j]? = some o → orderE l ((i + j : Nat) : Int) o = true
 | [], i => by simp [ordsE]
 | o :: r, i => by
  rw [ordsE]
  constructor
  ·intro h j x hx
   split at h
   ·rename_i h0
    cases j with
    | zero => simp only [List.getElem?_cons_zero, Option.some.injEq] at hx; rw [← hx]; exact h0
    | succ j => rw [List.getElem?_cons_succ] at hx; have := ordsE_iff.1 h j x hx; rw [show i + (j + 1) = i + 1 + j by omega]; exact this
   ·exact absurd h Bool.false_ne_true
  ·intro h
   rw [if_pos (show orderE l (i : Int) o = true from h 0 o rfl)]
   exact ordsE_iff.2 fun j x hx => by have := h (j + 1) x (by rw [List.getElem?_cons_succ]; exact hx); rw [show i + (j + 1) = i + 1 + j by omega] at this; exact this
theorem ordsE_eq (p : EProg) (f : EFn) : ordsE (p, f) 0 f.2.2.2.2 = ordersF (toProg p) (toFn f) := by
 have hl : lkE (p, f) = lkOf (toProg p) (toFn f) := by simp [lkE, lkOf, toProg, toFn]
 rw [Bool.eq_iff_iff, ordsE_iff, orders_at]
 constructor
 ·intro h i o ho
  have ho : (f.2.2.2.2.map toOrd)[i]? = some o := ho
  rw [List.getElem?_map] at ho
  obtain ⟨x, hx, rfl⟩ := Option.map_eq_some_iff.1 ho
  have := h i x hx
  rw [Nat.zero_add] at this
  unfold orderE at this
  rw [hl] at this
  exact this
 ·intro h i o ho
  have := h i (toOrd o) (by show (f.2.2.2.2.map toOrd)[i]? = _; rw [List.getElem?_map, ho]; rfl)
  rw [Nat.zero_add]
  unfold orderE
  rw [hl]
  exact this
def endFn (f : EFn) : Bool := !(triesF (toFn f).code).bad
def headE (f : EFn) : Bool := if f.1 < 0 then false else if f.2.1 < 1 then false else if f.2.1 < f.1 then false else true
def fnE (p : EProg) (f : EFn) : Bool := if headE f = true then (if ordsE (p, f) 0 f.2.2.2.2 = true then endFn f else false) else false
theorem fnE_eq (p : EProg) (f : EFn) : fnE p f = functionF (toProg p) (toFn f) := by
 unfold fnE functionF
 rw [ordsE_eq]
 have : headE f = headF (toFn f) := by
  unfold headE headF toFn
  simp only
  by_cases h1 : f.1 < 0
  ·rw [if_pos h1, decide_eq_false (by omega : ¬ 0 ≤ f.1)]; rfl
  ·rw [if_neg h1, decide_eq_true (by omega : 0 ≤ f.1)]
   by_cases h2 : f.2.1 < 1
   ·rw [if_pos h2, decide_eq_false (by omega : ¬ 1 ≤ f.2.1)]; rfl
   ·rw [if_neg h2, decide_eq_true (by omega : 1 ≤ f.2.1)]
    by_cases h3 : f.2.1 < f.1
    ·rw [if_pos h3, decide_eq_false (by omega : ¬ f.1 ≤ f.2.1)]; rfl
    ·rw [if_neg h3, decide_eq_true (by omega : f.1 ≤ f.2.1)]; rfl
 rw [this]
 unfold endFn
 cases headF (toFn f) <;> cases ordersF (toProg p) (toFn f) <;> rfl
noncomputable def oc50 : Orc where
 pure := fun f args => match f, args with
  | 121, [a0, a1, a2] => match dA tLook a0, dA tI a1, dA tOrd a2 with
   | some x0, some x1, some x2 => some (.c (.bool (orderE x0 x1 x2)))
   | _, _, _ => none
  | 122, [a0] => match dA tFn a0 with
   | some x0 => some (.tup [.c .junk, .c .junk, .c (.bool ((!(triesF (toFn x0).code).bad)))])
   | _ => none
  | _, _ => none
 heap := fun _ _ _ => none
def func_lv : LV := ⟨(F2 (false :: true :: false :: true :: F16 (F8 (true :: true :: true :: F16 (false :: []))))), []⟩
noncomputable def func_T (p : EProg) (f : EFn) : Tree :=
 .ite (decide (f.1 < 0))
 (.ret (.c (.lit false)) [.cells 39 (Ty.enc tProg p), .cells 84 (Ty.enc tFn f), .cells 187 (Ty.enc tLook (p, f))])
 (.ite (decide (f.2.1 < 1))
  (.ret (.c (.lit false)) [.cells 39 (Ty.enc tProg p), .cells 84 (Ty.enc tFn f), .cells 187 (Ty.enc tLook (p, f))])
  (.ite (decide (f.2.1 < f.1))
  (.ret (.c (.lit false)) [.cells 39 (Ty.enc tProg p), .cells 84 (Ty.enc tFn f), .cells 187 (Ty.enc tLook (p, f))])
  (.stop (lp (bodyOf Tryd.f83) 0) (J2 (.junk :: .c (.ptr 1 0 0 0) :: .junk :: .c (.ptr 2 0 0 0) :: J16 (J8 (.c (.ro tOrd f.2.2.2.2) :: .c (.int .i64 (f.2.2.2.2.length : Int)) :: .c (.int .i64 0) :: J16 (.junk :: []))))) [.cells 39 (Ty.enc tProg p), .cells 84 (Ty.enc tFn f), .cells 187 (Ty.enc tLook (p, f))])))
theorem func_T_ok (p : EProg) (f : EFn) : aRun Tryd.prog oc50 Tryd.f83 func_lv 3000 [.code (bodyOf Tryd.f83)] ([.agg (tProg.enc p), .agg (tFn.enc f)] ++ List.replicate (Func.ntmps Tryd.f83 - 2) .junk) [] = func_T p f := by kernel_rfl
noncomputable def func_l0_R (p : EProg) (f : EFn) (i : Nat) : Tree :=
 .ite (decide (((i : Nat) : Int) < (f.2.2.2.2.length : Int)))
 (.need ((0 : Int) ≤ ((i : Nat) : Int) ∧ (((i : Nat) : Int) : Int) < (f.2.2.2.2.length : Int)) <|
  .need (i < f.2.2.2.2.length) <|
  .call 121 [.agg (Ty.enc tLook (p, f)), .c (.int .i64 ((i : Nat) : Int)), .agg [.int .i64 (f.2.2.2.2.getD i tOrd.dflt).1, .int .i64 (f.2.2.2.2.getD i tOrd.dflt).2.1, .int .i64 (f.2.2.2.2.getD i tOrd.dflt).2.2.1, .int .i64 (f.2.2.2.2.getD i tOrd.dflt).2.2.2.1, .int .i64 (f.2.2.2.2.getD i tOrd.dflt).2.2.2.2]] false (.c (.bool (orderE (p, f) ((i : Nat) : Int) (f.2.2.2.2.getD i tOrd.dflt)))) <|
  .ite ((!(orderE (p, f) ((i : Nat) : Int) (f.2.2.2.2.getD i tOrd.dflt))))
  (.ret (.c (.lit false)) [.cells 84 (Ty.enc tFn f), .cells 187 (Ty.enc tLook (p, f)), .cells 189 [.int .i64 (f.2.2.2.2.getD i tOrd.dflt).1, .int .i64 (f.2.2.2.2.getD i tOrd.dflt).2.1, .int .i64 (f.2.2.2.2.getD i tOrd.dflt).2.2.1, .int .i64 (f.2.2.2.2.getD i tOrd.dflt).2.2.2.1, .int .i64 (f.2.2.2.2.getD i tOrd.dflt).2.2.2.2]])
  (.need (inR .i64 (((i : Nat) : Int) + 1)) <|
  .stop (lp (bodyOf Tryd.f83) 0) (J2 (.junk :: .c (.ptr 0 0 0 0) :: .junk :: .c (.ptr 1 0 0 0) :: J16 (J8 (.c (.ro tOrd f.2.2.2.2) :: .c (.int .i64 (f.2.2.2.2.length : Int)) :: .c (.int .i64 (((i : Nat) : Int) + 1)) :: J16 (.junk :: []))))) [.cells 84 (Ty.enc tFn f), .cells 187 (Ty.enc tLook (p, f)), .cells 189 [.int .i64 (f.2.2.2.2.getD i tOrd.dflt).1, .int .i64 (f.2.2.2.2.getD i tOrd.dflt).2.1, .int .i64 (f.2.2.2.2.getD i tOrd.dflt).2.2.1, .int .i64 (f.2.2.2.2.getD i tOrd.dflt).2.2.2.1, .int .i64 (f.2.2.2.2.getD i tOrd.dflt).2.2.2.2]]))
 (.call 122 [.agg (Ty.enc tFn f)] false (.tup [.c (.junk), .c (.junk), .c (.bool (!(triesF (toFn f).code).bad))]) <|
  .ret (.c (.bool (!(triesF (toFn f).code).bad))) [.cells 84 (Ty.enc tFn f), .cells 187 (Ty.enc tLook (p, f))])
theorem func_l0_R_ok (p : EProg) (f : EFn) (i : Nat) : aRound Tryd.prog oc50 Tryd.f83 func_lv 3000 (lp (bodyOf Tryd.f83) 0) (J2 (.junk :: .c (.ptr 0 0 0 0) :: .junk :: .c (.ptr 1 0 0 0) :: J16 (J8 (.c (.ro tOrd f.2.2.2.2) :: .c (.int .i64 (f.2.2.2.2.length : Int)) :: .c (.int .i64 ((i : Nat) : Int)) :: J16 (.junk :: []))))) [.cells 84 (Ty.enc tFn f), .cells 187 (Ty.enc tLook (p, f))] = func_l0_R p f i := by kernel_rfl
theorem func_l0 (p : EProg) (f : EFn) (i : Nat) (hq : 0 ≤ f.2.1 ∧ f.2.1 ≤ 60) (hn : f.2.2.2.2.length ≤ 600) (hj : ordsE (p, f) i (f.2.2.2.2.drop i) = true → jumpsOk (toFn f).code) : Run Tryd.prog 83 (retQ Tryd.prog (.c (.bool (if ordsE (p, f) i (f.2.2.2.2.drop i) = true then endFn f else false)))) (lp (bodyOf Tryd.f83) 0) (J2 (.junk :: .c (.ptr 0 0 0 0) :: .junk :: .c (.ptr 1 0 0 0) :: J16 (J8 (.c (.ro tOrd f.2.2.2.2) :: .c (.int .i64 (f.2.2.2.2.length : Int)) :: .c (.int .i64 ((i : Nat) : Int)) :: J16 (.junk :: []))))) [.cells 84 (Ty.enc tFn f), .cells 187 (Ty.enc tLook (p, f))] :=
 Run.roundA oc50 func_lv 3000 Tryd.func83 mixed (func_l0_R p f i) (func_l0_R_ok p f i) (by
  unfold func_l0_R
  refine g_iteD (fun h0 => ?_) (fun h0 => ?_)
  ·refine g_need (by omega) ?_
   refine g_need (by omega) ?_
   refine g_call (lorder_fun (p, f) ((i : Nat) : Int) (f.2.2.2.2.getD i tOrd.dflt) (by exact hq)) (fun h => nomatch h) ?_
   refine g_iteN (fun h1 => ?_) (fun h1 => ?_)
   ·exact g_retl (by first | (rw [dropCons (α := EOrd) (Ty.dflt tOrd) (by omega : i < f.2.2.2.2.length), ordsE]; simp only [h0, h1, if_false, Bool.false_eq_true]; done) | (rw [List.drop_eq_nil_of_le (by omega)]; rfl))
   ·refine g_need (by first | omega | (rw [i64_iff]; constructor <;> omega)) ?_
    refine g_stop (RunN.keep [0, 1] (F2 (false :: true :: false :: true :: F16 (F8 (true :: true :: true :: F16 (false :: []))))) n0 (by decide) rfl rfl ?_)
    have ht := func_l0 p f (i + 1) hq hn (fun h => hj (by rw [dropCons (α := EOrd) (Ty.dflt tOrd) (by omega : i < f.2.2.2.2.length), ordsE]; rw [if_pos h1]; exact h)); rw [dropCons (α := EOrd) (Ty.dflt tOrd) (by omega : i < f.2.2.2.2.length), ordsE]; rw [if_pos h1]; exact ht
  ·refine g_call (tries_fun f (hj (by rw [List.drop_eq_nil_of_le (by omega)]; rfl)) hn) (fun h => nomatch h) ?_
   exact g_retb (by first | (rw [dropCons (α := EOrd) (Ty.dflt tOrd) (by omega : i < f.2.2.2.2.length), ordsE]; simp only [h0, if_false, Bool.false_eq_true]; done) | (rw [List.drop_eq_nil_of_le (by omega)]; rfl))
  )
 termination_by f.2.2.2.2.length - i
 decreasing_by all_goals omega
theorem function_fun (p : EProg) (f : EFn) (hn : f.2.2.2.2.length ≤ 600) (h60 : f.2.1 ≤ 60) : AFun Tryd.prog 83 [.agg (tProg.enc p), .agg (tFn.enc f)] (.c (.bool (functionF (toProg p) (toFn f)))) :=
 AFun.of oc50 func_lv 3000 Tryd.func83 mixed rfl (by decide) (Nat.le_of_ble_eq_true rfl) _ (func_T_ok p f) fun hF => by
  unfold func_T
  refine g_iteD (fun h0 => ?_) (fun h0 => ?_)
  ·exact g_retl (by rw [← fnE_eq]; first | (simp only [fnE, headE, h0, if_true, if_false, Bool.false_eq_true]; done) | (simp_all [fnE, headE]; done))
  ·refine g_iteD (fun h1 => ?_) (fun h1 => ?_)
   ·exact g_retl (by rw [← fnE_eq]; first | (simp only [fnE, headE, h0, h1, if_true, if_false, Bool.false_eq_true]; done) | (simp_all [fnE, headE]; done))
   ·refine g_iteD (fun h2 => ?_) (fun h2 => ?_)
    ·exact g_retl (by rw [← fnE_eq]; first | (simp only [fnE, headE, h0, h1, h2, if_true, if_false, Bool.false_eq_true]; done) | (simp_all [fnE, headE]; done))
    ·refine g_stop (RunN.keep [1, 2] (F2 (false :: true :: false :: true :: F16 (F8 (true :: true :: true :: F16 (false :: []))))) n0 (by decide) rfl rfl ?_)
     have ht := func_l0 p f 0 (by omega) hn (fun h => by rw [List.drop_zero, ordsE_eq] at h; exact orders_jumps h); rw [List.drop_zero] at ht; rw [← fnE_eq]; have e : headE f = true := (by first | (simp only [headE, h0, h1, h2, if_true, if_false]; done) | (simp_all [headE]; done)); rw [fnE, if_pos e]; exact ht

end Go.Proofs.YtefkifdhjabdiaaDoor
