/- What the laws' texts lean on, part 4: lemmas and the contracts of functions. No condition. -/
import Derived.Test.YtefkifdhjabdiaaDoorM2
import Derived.Test.YtefkifdhjabdiaaDoorM1
import Derived.Test.YtefkifdhjabdiaaDoorM0
import Derived.OwnWalk
import Derived.WalkSpells
import Derived.Deep.RegionLaw
import Derived.Deep.RegionHeld3
import Derived.Laws.OwnMore
namespace Go.Proofs.YtefkifdhjabdiaaDoor
set_option linter.unusedVariables false
set_option linter.unusedSimpArgs false
open Go.RowKit

set_option maxRecDepth 100000 in
set_option maxHeartbeats 8000000 in
theorem order_14 (l : Lk) (hl : l.Ok) (A1 A2 A3 A4 A5 : Option Addr) (c1 c2 c3 c4 c5 : Nat) (params : Int) (gen : Bool) (at_ : Int) (i : Ord) (fa fb fc : UInt8) (hf : formF i.op = some (fa, fb, fc)) (hline : withinF i.line 0 2000 = true) (hna : namesF l fa i.a = true) (hnb : namesF l fb i.b = true) (hnc : namesF l fc i.c = true) (hop : i.op = 14) (w : World) :
    Calls Tryd.prog 121 #[.agg (lookOf l A1 A2 A3 A4 A5 c1 c2 c3 c4 c5 params gen), .int .i64 at_, .agg i.cells] w fun e w' => e = .returned (.bool (decide (i.a ≤ at_))) ∧ Below w.heap.size w w' := by
  obtain ⟨op, a, b, c, line⟩ := i
  obtain ⟨nf, nc, nt, regs, ng, no⟩ := l
  have hl' := hl
  obtain ⟨k1, k2, k3, k4, k5, k6, k7⟩ := hl'
  unfold Ord.cells
  unfold lookOf
  simp only at hf hl hline hna hnb hnc hop k1 k2 k3 k4 k5 k6 k7 ⊢
  have hs : formS op = ⟨#[fa, fb, fc]⟩ := by simp [formS, hf]
  have HF := Lib.hid (fun w => form_any op w)
  rw [hs] at HF
  obtain ⟨la, lb, lc⟩ := form_letters hf
  have HN1 := Lib.hid (fun w' => names_any ⟨nf, nc, nt, regs, ng, no⟩ hl A1 A2 A3 A4 A5 c1 c2 c3 c4 c5 params gen fa (by rcases la with h | h | h <;> simp [Letter, h]) a w')
  have HN2 := Lib.hid (fun w' => names_any ⟨nf, nc, nt, regs, ng, no⟩ hl A1 A2 A3 A4 A5 c1 c2 c3 c4 c5 params gen fb (by rcases lb with h | h | h | h | h | h | h | h | h <;> simp [Letter, h]) b w')
  have HN3 := Lib.hid (fun w' => names_any ⟨nf, nc, nt, regs, ng, no⟩ hl A1 A2 A3 A4 A5 c1 c2 c3 c4 c5 params gen fc (by rcases lc with h | h | h | h <;> simp [Letter, h]) c w')
  simp only at HN1 HN2 HN3
  rw [hna] at HN1
  rw [hnb] at HN2
  rw [hnc] at HN3
  have HL := Lib.hid (fun w' => within_below line 0 2000 _ hline w')
  obtain ⟨W0, hW0⟩ : ∃ W0, W0 = (w.alloc (.cells (lookCells (.slice A1 nf c1) (.slice A2 nc c2) (.slice A3 nt c3) params regs gen (.slice A4 ng c4) (.slice A5 no c5)) 187)).alloc (.cells #[.int .i64 op, .int .i64 a, .int .i64 b, .int .i64 c, .int .i64 line] 189) := ⟨_, rfl⟩
  have sz0 : W0.heap.size = w.heap.size + 2 := by rw [hW0]; simp
  have B0 : Below w.heap.size w W0 := by rw [hW0]; exact ((Below.refl _ _).alloc (Nat.le_refl _) _).alloc (by simp) _
  have fa_ : ∀ w', Below (w.heap.size + 2) W0 w' → w'.cell? ⟨w.heap.size, 0, none⟩ = some (.slice A1 nf c1) ∧ w'.cell? ⟨w.heap.size, 1, none⟩ = some (.slice A2 nc c2) ∧ w'.cell? ⟨w.heap.size, 2, none⟩ = some (.slice A3 nt c3) ∧ w'.cell? ⟨w.heap.size, 3, none⟩ = some (.int .i64 params) ∧ w'.cell? ⟨w.heap.size, 4, none⟩ = some (.int .i64 regs) ∧ w'.cell? ⟨w.heap.size, 5, none⟩ = some (.bool gen) ∧ w'.cell? ⟨w.heap.size, 6, none⟩ = some (.slice A4 ng c4) ∧ w'.cell? ⟨w.heap.size, 7, none⟩ = some (.slice A5 no c5) ∧
      w'.cell? ⟨w.heap.size + 1, 0, none⟩ = some (.int .i64 op) ∧ w'.cell? ⟨w.heap.size + 1, 1, none⟩ = some (.int .i64 a) ∧ w'.cell? ⟨w.heap.size + 1, 2, none⟩ = some (.int .i64 b) ∧ w'.cell? ⟨w.heap.size + 1, 3, none⟩ = some (.int .i64 c) ∧ w'.cell? ⟨w.heap.size + 1, 4, none⟩ = some (.int .i64 line) ∧
      w.heap.size + 1 < w'.heap.size ∧ Below (w.heap.size + 2) W0 w' := fun w' h' => by
    have e : ∀ i, w'.cell? ⟨w.heap.size, i, none⟩ = W0.cell? ⟨w.heap.size, i, none⟩ := fun i => h'.cell (p := ⟨w.heap.size, i, none⟩) (by simp)
    have e' : ∀ i, w'.cell? ⟨w.heap.size + 1, i, none⟩ = W0.cell? ⟨w.heap.size + 1, i, none⟩ := fun i => h'.cell (p := ⟨w.heap.size + 1, i, none⟩) (by simp)
    refine ⟨?_, ?_, ?_, ?_, ?_, ?_, ?_, ?_, ?_, ?_, ?_, ?_, ?_, by have := h'.size; omega, h'⟩ <;> (first | rw [e, hW0] | rw [e', hW0]) <;> simp [lookCells]
  have HFA := Lib.hid fa_
  have HB := Lib.hid B0
  have HW := Lib.hid hW0
  have HS := Lib.hid sz0
  clear fa_ B0 hW0 sz0 hf hs la lb lc hl
  have n14 : (op == 14) = true := by rw [hop]; rfl
  clear hop
  go_enter Tryd.func121, Tryd.ntmps121
  go_wp2_with fail
  refine (HF.out _).mono ?_
  rintro e w1 ⟨rfl, hb⟩
  have hb1 : Below (w.heap.size + 2) W0 w1 := by rw [HW.out]; simpa using hb
  obtain ⟨q0, q1, q2, q3, q4, q5, q6, q7, p0, p1, p2, p3, p4, szs, hb2⟩ := HFA.out _ hb1
  clear hb hb1
  go_wp2_with fail
  refine wp_region_held_drew (S := fun w' => w'.cell? ⟨w.heap.size, 0, none⟩ = some (.slice A1 nf c1) ∧ w'.cell? ⟨w.heap.size, 1, none⟩ = some (.slice A2 nc c2) ∧ w'.cell? ⟨w.heap.size, 2, none⟩ = some (.slice A3 nt c3) ∧ w'.cell? ⟨w.heap.size, 3, none⟩ = some (.int .i64 params) ∧ w'.cell? ⟨w.heap.size, 4, none⟩ = some (.int .i64 regs) ∧ w'.cell? ⟨w.heap.size, 5, none⟩ = some (.bool gen) ∧ w'.cell? ⟨w.heap.size, 6, none⟩ = some (.slice A4 ng c4) ∧ w'.cell? ⟨w.heap.size, 7, none⟩ = some (.slice A5 no c5) ∧
      w'.cell? ⟨w.heap.size + 1, 0, none⟩ = some (.int .i64 op) ∧ w'.cell? ⟨w.heap.size + 1, 1, none⟩ = some (.int .i64 a) ∧ w'.cell? ⟨w.heap.size + 1, 2, none⟩ = some (.int .i64 b) ∧ w'.cell? ⟨w.heap.size + 1, 3, none⟩ = some (.int .i64 c) ∧ w'.cell? ⟨w.heap.size + 1, 4, none⟩ = some (.int .i64 line) ∧
      w.heap.size + 1 < w'.heap.size ∧ Below (w.heap.size + 2) W0 w') (by kernel_rfl) (HFA.out _ (Below.drew (by assumption))) (fun hHeld => ?_)
  try dsimp only
  refine wpAnyH_take (i := 0) (oi := ?oi0) (v := ?vv0) ?hi0 (by kernel_rfl) (by kernel_rfl) (by kernel_rfl) ?hQ0 (Or.inl ⟨?hw0, ?hy0⟩) (by assumption) ?hh0
  case hi0 => simp only [List.getElem?_toArray, List.getElem?_cons_succ, List.getElem?_cons_zero]; rfl
  case hw0 => rfl
  case hy0 => (intro w hSw; (try dsimp only at hSw); go_simp; (try with_reducible rfl))
  case hQ0 => exact fun _ _ _ h => h
  try simp only [Act.put, List.setIfInBounds_toArray, List.set_cons_zero, List.set_cons_succ]
  refine wpAnyH_take (i := 1) (oi := ?oi1) (v := ?vv1) ?hi1 (by kernel_rfl) (by kernel_rfl) (by kernel_rfl) ?hQ1 (Or.inl ⟨?hw1, ?hy1⟩) (by assumption) ?hh1
  case hi1 => simp only [List.getElem?_toArray, List.getElem?_cons_succ, List.getElem?_cons_zero]; rfl
  case hw1 => rfl
  case hy1 => (intro w hSw; (try dsimp only at hSw); go_simp; (try with_reducible rfl))
  case hQ1 => exact fun _ _ _ h => h
  try simp only [Act.put, List.setIfInBounds_toArray, List.set_cons_zero, List.set_cons_succ]
  refine wpAnyH_take (i := 2) (oi := ?oi2) (v := ?vv2) ?hi2 (by kernel_rfl) (by kernel_rfl) (by kernel_rfl) ?hQ2 (Or.inl ⟨?hw2, ?hy2⟩) (by assumption) ?hh2
  case hi2 => simp only [List.getElem?_toArray, List.getElem?_cons_succ, List.getElem?_cons_zero]; rfl
  case hw2 => rfl
  case hy2 => (intro w hSw; (try dsimp only at hSw); go_simp; (try with_reducible rfl))
  case hQ2 => exact fun _ _ _ h => h
  try simp only [Act.put, List.setIfInBounds_toArray, List.set_cons_zero, List.set_cons_succ]
  refine wpAnyH_take (i := 3) (oi := ?oi3) (v := ?vv3) ?hi3 (by kernel_rfl) (by kernel_rfl) (by kernel_rfl) ?hQ3 (Or.inl ⟨?hw3, ?hy3⟩) (by assumption) ?hh3
  case hi3 => simp only [List.getElem?_toArray, List.getElem?_cons_succ, List.getElem?_cons_zero]; rfl
  case hw3 => rfl
  case hy3 => (intro w hSw; (try dsimp only at hSw); go_simp; (try with_reducible rfl))
  case hQ3 => exact fun _ _ _ h => h
  try simp only [Act.put, List.setIfInBounds_toArray, List.set_cons_zero, List.set_cons_succ]
  refine wpAnyH_take (i := 4) (oi := ?oi4) (v := ?vv4) ?hi4 (by kernel_rfl) (by kernel_rfl) (by kernel_rfl) ?hQ4 (Or.inl ⟨?hw4, ?hy4⟩) (by assumption) ?hh4
  case hi4 => simp only [List.getElem?_toArray, List.getElem?_cons_succ, List.getElem?_cons_zero]; rfl
  case hw4 => rfl
  case hy4 => (intro w hSw; (try dsimp only at hSw); go_simp; (try with_reducible rfl))
  case hQ4 => exact fun _ _ _ h => h
  try simp only [Act.put, List.setIfInBounds_toArray, List.set_cons_zero, List.set_cons_succ]
  refine wpAnyH_ready (rs := [5]) (by kernel_rfl) (by simp) ?_
  refine AllReadyH.cons (o := ?oi5) ?hi5 (fun K hK => ?hh5) AllReadyH.nil
  case hi5 => simp only [List.getElem?_toArray, List.getElem?_cons_succ, List.getElem?_cons_zero]; rfl
  go_simp
  go_at_call 145
  refine (HL.out _).mono ?_
  rintro e w' ⟨rfl, hbb⟩
  go_wp2_with fail
  refine hK.out _ _ ?_ (fun hHeld2 => ?_)
  · (first | exact HFA.out _ (Below.drew (by assumption)) | (go_split_ands; exact HFA.out _ ((by assumption : Below (w.heap.size + 2) W0 _).trans (hbb.mono (by omega)))))
  clear hK K hHeld
  have hHeld := hHeld2
  clear hHeld2
  try simp only [Act.put, List.setIfInBounds_toArray, List.set_cons_zero, List.set_cons_succ]
  refine wpAnyH_take (i := 6) (oi := ?oi6) (v := ?vv6) ?hi6 (by kernel_rfl) (by kernel_rfl) (by kernel_rfl) ?hQ6 (Or.inl ⟨?hw6, ?hy6⟩) (by assumption) ?hh6
  case hi6 => simp only [List.getElem?_toArray, List.getElem?_cons_succ, List.getElem?_cons_zero]; rfl
  case hw6 => rfl
  case hy6 => (intro w hSw; (try dsimp only at hSw); go_simp; (try with_reducible rfl))
  case hQ6 => exact fun _ _ _ h => h
  try simp only [Act.put, List.setIfInBounds_toArray, List.set_cons_zero, List.set_cons_succ]
  refine wpAnyH_take (i := 7) (oi := ?oi7) (v := ?vv7) ?hi7 (by kernel_rfl) (by kernel_rfl) (by kernel_rfl) ?hQ7 (Or.inl ⟨?hw7, ?hy7⟩) (by assumption) ?hh7
  case hi7 => simp only [List.getElem?_toArray, List.getElem?_cons_succ, List.getElem?_cons_zero]; rfl
  case hw7 => rfl
  case hy7 => (intro w hSw; (try dsimp only at hSw); go_simp; (try with_reducible rfl))
  case hQ7 => exact fun _ _ _ h => h
  try simp only [Act.put, List.setIfInBounds_toArray, List.set_cons_zero, List.set_cons_succ]
  refine wpAnyH_take (i := 8) (oi := ?oi8) (v := ?vv8) ?hi8 (by kernel_rfl) (by kernel_rfl) (by kernel_rfl) ?hQ8 (Or.inl ⟨?hw8, ?hy8⟩) (by assumption) ?hh8
  case hi8 => simp only [List.getElem?_toArray, List.getElem?_cons_succ, List.getElem?_cons_zero]; rfl
  case hw8 => rfl
  case hy8 => (intro w hSw; (try dsimp only at hSw); go_simp; (try with_reducible rfl))
  case hQ8 => exact fun _ _ _ h => h
  try simp only [Act.put, List.setIfInBounds_toArray, List.set_cons_zero, List.set_cons_succ]
  refine wpAnyH_take (i := 9) (oi := ?oi9) (v := ?vv9) ?hi9 (by kernel_rfl) (by kernel_rfl) (by kernel_rfl) ?hQ9 (Or.inl ⟨?hw9, ?hy9⟩) (by assumption) ?hh9
  case hi9 => simp only [List.getElem?_toArray, List.getElem?_cons_succ, List.getElem?_cons_zero]; rfl
  case hw9 => rfl
  case hy9 => (intro w hSw; (try dsimp only at hSw); go_simp; (try with_reducible rfl))
  case hQ9 => exact fun _ _ _ h => h
  try simp only [Act.put, List.setIfInBounds_toArray, List.set_cons_zero, List.set_cons_succ]
  refine wpAnyH_take (i := 10) (oi := ?oi10) (v := ?vv10) ?hi10 (by kernel_rfl) (by kernel_rfl) (by kernel_rfl) ?hQ10 (Or.inl ⟨?hw10, ?hy10⟩) (by assumption) ?hh10
  case hi10 => simp only [List.getElem?_toArray, List.getElem?_cons_succ, List.getElem?_cons_zero]; rfl
  case hw10 => rfl
  case hy10 => (intro w hSw; (try dsimp only at hSw); go_simp; (try with_reducible rfl))
  case hQ10 => exact fun _ _ _ h => h
  try simp only [Act.put, List.setIfInBounds_toArray, List.set_cons_zero, List.set_cons_succ]
  refine wpAnyH_take (i := 11) (oi := ?oi11) (v := ?vv11) ?hi11 (by kernel_rfl) (by kernel_rfl) (by kernel_rfl) ?hQ11 (Or.inl ⟨?hw11, ?hy11⟩) (by assumption) ?hh11
  case hi11 => simp only [List.getElem?_toArray, List.getElem?_cons_succ, List.getElem?_cons_zero]; rfl
  case hw11 => rfl
  case hy11 => (intro w hSw; (try dsimp only at hSw); go_simp; (try with_reducible rfl))
  case hQ11 => exact fun _ _ _ h => h
  try simp only [Act.put, List.setIfInBounds_toArray, List.set_cons_zero, List.set_cons_succ]
  refine wpAnyH_take (i := 12) (oi := ?oi12) (v := ?vv12) ?hi12 (by kernel_rfl) (by kernel_rfl) (by kernel_rfl) ?hQ12 (Or.inl ⟨?hw12, ?hy12⟩) (by assumption) ?hh12
  case hi12 => simp only [List.getElem?_toArray, List.getElem?_cons_succ, List.getElem?_cons_zero]; rfl
  case hw12 => rfl
  case hy12 => (intro w hSw; (try dsimp only at hSw); go_simp; (try with_reducible rfl))
  case hQ12 => exact fun _ _ _ h => h
  try simp only [Act.put, List.setIfInBounds_toArray, List.set_cons_zero, List.set_cons_succ]
  refine wpAnyH_take (i := 13) (oi := ?oi13) (v := ?vv13) ?hi13 (by kernel_rfl) (by kernel_rfl) (by kernel_rfl) ?hQ13 (Or.inl ⟨?hw13, ?hy13⟩) (by assumption) ?hh13
  case hi13 => simp only [List.getElem?_toArray, List.getElem?_cons_succ, List.getElem?_cons_zero]; rfl
  case hw13 => rfl
  case hy13 => (intro w hSw; (try dsimp only at hSw); go_simp; (try with_reducible rfl))
  case hQ13 => exact fun _ _ _ h => h
  try simp only [Act.put, List.setIfInBounds_toArray, List.set_cons_zero, List.set_cons_succ]
  refine wpAnyH_ready (rs := [14]) (by kernel_rfl) (by simp) ?_
  refine AllReadyH.cons (o := ?oi14) ?hi14 (fun K hK => ?hh14) AllReadyH.nil
  case hi14 => simp only [List.getElem?_toArray, List.getElem?_cons_succ, List.getElem?_cons_zero]; rfl
  go_simp
  go_at_call 146
  refine (HN1.out _).mono ?_
  rintro e w' ⟨rfl, hbb⟩
  go_wp2_with fail
  refine hK.out _ _ ?_ (fun hHeld2 => ?_)
  · (first | exact HFA.out _ (Below.drew (by assumption)) | (go_split_ands; exact HFA.out _ ((by assumption : Below (w.heap.size + 2) W0 _).trans (hbb.mono (by omega)))))
  clear hK K hHeld
  have hHeld := hHeld2
  clear hHeld2
  try simp only [Act.put, List.setIfInBounds_toArray, List.set_cons_zero, List.set_cons_succ]
  refine wpAnyH_take (i := 15) (oi := ?oi15) (v := ?vv15) ?hi15 (by kernel_rfl) (by kernel_rfl) (by kernel_rfl) ?hQ15 (Or.inl ⟨?hw15, ?hy15⟩) (by assumption) ?hh15
  case hi15 => simp only [List.getElem?_toArray, List.getElem?_cons_succ, List.getElem?_cons_zero]; rfl
  case hw15 => rfl
  case hy15 => (intro w hSw; (try dsimp only at hSw); go_simp; (try with_reducible rfl))
  case hQ15 => exact fun _ _ _ h => h
  try simp only [Act.put, List.setIfInBounds_toArray, List.set_cons_zero, List.set_cons_succ]
  refine wpAnyH_take (i := 16) (oi := ?oi16) (v := ?vv16) ?hi16 (by kernel_rfl) (by kernel_rfl) (by kernel_rfl) ?hQ16 (Or.inl ⟨?hw16, ?hy16⟩) (by assumption) ?hh16
  case hi16 => simp only [List.getElem?_toArray, List.getElem?_cons_succ, List.getElem?_cons_zero]; rfl
  case hw16 => rfl
  case hy16 => (intro w hSw; (try dsimp only at hSw); go_simp; (try with_reducible rfl))
  case hQ16 => exact fun _ _ _ h => h
  try simp only [Act.put, List.setIfInBounds_toArray, List.set_cons_zero, List.set_cons_succ]
  refine wpAnyH_take (i := 17) (oi := ?oi17) (v := ?vv17) ?hi17 (by kernel_rfl) (by kernel_rfl) (by kernel_rfl) ?hQ17 (Or.inl ⟨?hw17, ?hy17⟩) (by assumption) ?hh17
  case hi17 => simp only [List.getElem?_toArray, List.getElem?_cons_succ, List.getElem?_cons_zero]; rfl
  case hw17 => rfl
  case hy17 => (intro w hSw; (try dsimp only at hSw); go_simp; (try with_reducible rfl))
  case hQ17 => exact fun _ _ _ h => h
  try simp only [Act.put, List.setIfInBounds_toArray, List.set_cons_zero, List.set_cons_succ]
  refine wpAnyH_take (i := 18) (oi := ?oi18) (v := ?vv18) ?hi18 (by kernel_rfl) (by kernel_rfl) (by kernel_rfl) ?hQ18 (Or.inl ⟨?hw18, ?hy18⟩) (by assumption) ?hh18
  case hi18 => simp only [List.getElem?_toArray, List.getElem?_cons_succ, List.getElem?_cons_zero]; rfl
  case hw18 => rfl
  case hy18 => (intro w hSw; (try dsimp only at hSw); go_simp; (try with_reducible rfl))
  case hQ18 => exact fun _ _ _ h => h
  try simp only [Act.put, List.setIfInBounds_toArray, List.set_cons_zero, List.set_cons_succ]
  refine wpAnyH_take (i := 19) (oi := ?oi19) (v := ?vv19) ?hi19 (by kernel_rfl) (by kernel_rfl) (by kernel_rfl) ?hQ19 (Or.inl ⟨?hw19, ?hy19⟩) (by assumption) ?hh19
  case hi19 => simp only [List.getElem?_toArray, List.getElem?_cons_succ, List.getElem?_cons_zero]; rfl
  case hw19 => rfl
  case hy19 => (intro w hSw; (try dsimp only at hSw); go_simp; (try with_reducible rfl))
  case hQ19 => exact fun _ _ _ h => h
  try simp only [Act.put, List.setIfInBounds_toArray, List.set_cons_zero, List.set_cons_succ]
  refine wpAnyH_take (i := 20) (oi := ?oi20) (v := ?vv20) ?hi20 (by kernel_rfl) (by kernel_rfl) (by kernel_rfl) ?hQ20 (Or.inl ⟨?hw20, ?hy20⟩) (by assumption) ?hh20
  case hi20 => simp only [List.getElem?_toArray, List.getElem?_cons_succ, List.getElem?_cons_zero]; rfl
  case hw20 => rfl
  case hy20 => (intro w hSw; (try dsimp only at hSw); go_simp; (try with_reducible rfl))
  case hQ20 => exact fun _ _ _ h => h
  try simp only [Act.put, List.setIfInBounds_toArray, List.set_cons_zero, List.set_cons_succ]
  refine wpAnyH_take (i := 21) (oi := ?oi21) (v := ?vv21) ?hi21 (by kernel_rfl) (by kernel_rfl) (by kernel_rfl) ?hQ21 (Or.inl ⟨?hw21, ?hy21⟩) (by assumption) ?hh21
  case hi21 => simp only [List.getElem?_toArray, List.getElem?_cons_succ, List.getElem?_cons_zero]; rfl
  case hw21 => rfl
  case hy21 => (intro w hSw; (try dsimp only at hSw); go_simp; (try with_reducible rfl))
  case hQ21 => exact fun _ _ _ h => h
  try simp only [Act.put, List.setIfInBounds_toArray, List.set_cons_zero, List.set_cons_succ]
  refine wpAnyH_take (i := 22) (oi := ?oi22) (v := ?vv22) ?hi22 (by kernel_rfl) (by kernel_rfl) (by kernel_rfl) ?hQ22 (Or.inl ⟨?hw22, ?hy22⟩) (by assumption) ?hh22
  case hi22 => simp only [List.getElem?_toArray, List.getElem?_cons_succ, List.getElem?_cons_zero]; rfl
  case hw22 => rfl
  case hy22 => (intro w hSw; (try dsimp only at hSw); go_simp; (try with_reducible rfl))
  case hQ22 => exact fun _ _ _ h => h
  try simp only [Act.put, List.setIfInBounds_toArray, List.set_cons_zero, List.set_cons_succ]
  refine wpAnyH_ready (rs := [23]) (by kernel_rfl) (by simp) ?_
  refine AllReadyH.cons (o := ?oi23) ?hi23 (fun K hK => ?hh23) AllReadyH.nil
  case hi23 => simp only [List.getElem?_toArray, List.getElem?_cons_succ, List.getElem?_cons_zero]; rfl
  go_simp
  go_at_call 146
  refine (HN2.out _).mono ?_
  rintro e w' ⟨rfl, hbb⟩
  go_wp2_with fail
  refine hK.out _ _ ?_ (fun hHeld2 => ?_)
  · (first | exact HFA.out _ (Below.drew (by assumption)) | (go_split_ands; exact HFA.out _ ((by assumption : Below (w.heap.size + 2) W0 _).trans (hbb.mono (by omega)))))
  clear hK K hHeld
  have hHeld := hHeld2
  clear hHeld2
  try simp only [Act.put, List.setIfInBounds_toArray, List.set_cons_zero, List.set_cons_succ]
  refine wpAnyH_take (i := 24) (oi := ?oi24) (v := ?vv24) ?hi24 (by kernel_rfl) (by kernel_rfl) (by kernel_rfl) ?hQ24 (Or.inl ⟨?hw24, ?hy24⟩) (by assumption) ?hh24
  case hi24 => simp only [List.getElem?_toArray, List.getElem?_cons_succ, List.getElem?_cons_zero]; rfl
  case hw24 => rfl
  case hy24 => (intro w hSw; (try dsimp only at hSw); go_simp; (try with_reducible rfl))
  case hQ24 => exact fun _ _ _ h => h
  try simp only [Act.put, List.setIfInBounds_toArray, List.set_cons_zero, List.set_cons_succ]
  refine wpAnyH_take (i := 25) (oi := ?oi25) (v := ?vv25) ?hi25 (by kernel_rfl) (by kernel_rfl) (by kernel_rfl) ?hQ25 (Or.inl ⟨?hw25, ?hy25⟩) (by assumption) ?hh25
  case hi25 => simp only [List.getElem?_toArray, List.getElem?_cons_succ, List.getElem?_cons_zero]; rfl
  case hw25 => rfl
  case hy25 => (intro w hSw; (try dsimp only at hSw); go_simp; (try with_reducible rfl))
  case hQ25 => exact fun _ _ _ h => h
  try simp only [Act.put, List.setIfInBounds_toArray, List.set_cons_zero, List.set_cons_succ]
  refine wpAnyH_take (i := 26) (oi := ?oi26) (v := ?vv26) ?hi26 (by kernel_rfl) (by kernel_rfl) (by kernel_rfl) ?hQ26 (Or.inl ⟨?hw26, ?hy26⟩) (by assumption) ?hh26
  case hi26 => simp only [List.getElem?_toArray, List.getElem?_cons_succ, List.getElem?_cons_zero]; rfl
  case hw26 => rfl
  case hy26 => (intro w hSw; (try dsimp only at hSw); go_simp; (try with_reducible rfl))
  case hQ26 => exact fun _ _ _ h => h
  try simp only [Act.put, List.setIfInBounds_toArray, List.set_cons_zero, List.set_cons_succ]
  refine wpAnyH_take (i := 27) (oi := ?oi27) (v := ?vv27) ?hi27 (by kernel_rfl) (by kernel_rfl) (by kernel_rfl) ?hQ27 (Or.inl ⟨?hw27, ?hy27⟩) (by assumption) ?hh27
  case hi27 => simp only [List.getElem?_toArray, List.getElem?_cons_succ, List.getElem?_cons_zero]; rfl
  case hw27 => rfl
  case hy27 => (intro w hSw; (try dsimp only at hSw); go_simp; (try with_reducible rfl))
  case hQ27 => exact fun _ _ _ h => h
  try simp only [Act.put, List.setIfInBounds_toArray, List.set_cons_zero, List.set_cons_succ]
  refine wpAnyH_take (i := 28) (oi := ?oi28) (v := ?vv28) ?hi28 (by kernel_rfl) (by kernel_rfl) (by kernel_rfl) ?hQ28 (Or.inl ⟨?hw28, ?hy28⟩) (by assumption) ?hh28
  case hi28 => simp only [List.getElem?_toArray, List.getElem?_cons_succ, List.getElem?_cons_zero]; rfl
  case hw28 => rfl
  case hy28 => (intro w hSw; (try dsimp only at hSw); go_simp; (try with_reducible rfl))
  case hQ28 => exact fun _ _ _ h => h
  try simp only [Act.put, List.setIfInBounds_toArray, List.set_cons_zero, List.set_cons_succ]
  refine wpAnyH_take (i := 29) (oi := ?oi29) (v := ?vv29) ?hi29 (by kernel_rfl) (by kernel_rfl) (by kernel_rfl) ?hQ29 (Or.inl ⟨?hw29, ?hy29⟩) (by assumption) ?hh29
  case hi29 => simp only [List.getElem?_toArray, List.getElem?_cons_succ, List.getElem?_cons_zero]; rfl
  case hw29 => rfl
  case hy29 => (intro w hSw; (try dsimp only at hSw); go_simp; (try with_reducible rfl))
  case hQ29 => exact fun _ _ _ h => h
  try simp only [Act.put, List.setIfInBounds_toArray, List.set_cons_zero, List.set_cons_succ]
  refine wpAnyH_take (i := 30) (oi := ?oi30) (v := ?vv30) ?hi30 (by kernel_rfl) (by kernel_rfl) (by kernel_rfl) ?hQ30 (Or.inl ⟨?hw30, ?hy30⟩) (by assumption) ?hh30
  case hi30 => simp only [List.getElem?_toArray, List.getElem?_cons_succ, List.getElem?_cons_zero]; rfl
  case hw30 => rfl
  case hy30 => (intro w hSw; (try dsimp only at hSw); go_simp; (try with_reducible rfl))
  case hQ30 => exact fun _ _ _ h => h
  try simp only [Act.put, List.setIfInBounds_toArray, List.set_cons_zero, List.set_cons_succ]
  refine wpAnyH_take (i := 31) (oi := ?oi31) (v := ?vv31) ?hi31 (by kernel_rfl) (by kernel_rfl) (by kernel_rfl) ?hQ31 (Or.inl ⟨?hw31, ?hy31⟩) (by assumption) ?hh31
  case hi31 => simp only [List.getElem?_toArray, List.getElem?_cons_succ, List.getElem?_cons_zero]; rfl
  case hw31 => rfl
  case hy31 => (intro w hSw; (try dsimp only at hSw); go_simp; (try with_reducible rfl))
  case hQ31 => exact fun _ _ _ h => h
  try simp only [Act.put, List.setIfInBounds_toArray, List.set_cons_zero, List.set_cons_succ]
  refine wpAnyH_ready (rs := [32]) (by kernel_rfl) (by simp) ?_
  refine AllReadyH.cons (o := ?oi32) ?hi32 (fun K hK => ?hh32) AllReadyH.nil
  case hi32 => simp only [List.getElem?_toArray, List.getElem?_cons_succ, List.getElem?_cons_zero]; rfl
  go_simp
  go_at_call 146
  refine (HN3.out _).mono ?_
  rintro e w' ⟨rfl, hbb⟩
  go_wp2_with fail
  refine hK.out _ _ ?_ (fun hHeld2 => ?_)
  · (first | exact HFA.out _ (Below.drew (by assumption)) | (go_split_ands; exact HFA.out _ ((by assumption : Below (w.heap.size + 2) W0 _).trans (hbb.mono (by omega)))))
  clear hK K hHeld
  have hHeld := hHeld2
  clear hHeld2
  try simp only [Act.put, List.setIfInBounds_toArray, List.set_cons_zero, List.set_cons_succ]
  refine wpAnyH_take (i := 33) (oi := ?oi33) (v := ?vv33) ?hi33 (by kernel_rfl) (by kernel_rfl) (by kernel_rfl) ?hQ33 (Or.inl ⟨?hw33, ?hy33⟩) (by assumption) ?hh33
  case hi33 => simp only [List.getElem?_toArray, List.getElem?_cons_succ, List.getElem?_cons_zero]; rfl
  case hw33 => rfl
  case hy33 => (intro w hSw; (try dsimp only at hSw); go_simp; (try with_reducible rfl))
  case hQ33 => exact fun _ _ _ h => h
  try simp only [Act.put, List.setIfInBounds_toArray, List.set_cons_zero, List.set_cons_succ]
  refine wpAnyH_take (i := 34) (oi := ?oi34) (v := ?vv34) ?hi34 (by kernel_rfl) (by kernel_rfl) (by kernel_rfl) ?hQ34 (Or.inl ⟨?hw34, ?hy34⟩) (by assumption) ?hh34
  case hi34 => simp only [List.getElem?_toArray, List.getElem?_cons_succ, List.getElem?_cons_zero]; rfl
  case hw34 => rfl
  case hy34 => (intro w hSw; (try dsimp only at hSw); go_simp; (try with_reducible rfl))
  case hQ34 => exact fun _ _ _ h => h
  try simp only [Act.put, List.setIfInBounds_toArray, List.set_cons_zero, List.set_cons_succ]
  refine wpAnyH_done (by kernel_rfl) ?_ _
  go_split_ands
  go_wp2_with fail
  go_ret
  exact ⟨rfl, HB.out.trans (Below.mono (by assumption) (by omega))⟩


set_option maxRecDepth 100000 in
set_option maxHeartbeats 8000000 in
theorem order_32 (l : Lk) (hl : l.Ok) (A1 A2 A3 A4 A5 : Option Addr) (c1 c2 c3 c4 c5 : Nat) (params : Int) (gen : Bool) (at_ : Int) (i : Ord) (fa fb fc : UInt8) (hf : formF i.op = some (fa, fb, fc)) (hline : withinF i.line 0 2000 = true) (hna : namesF l fa i.a = true) (hnb : namesF l fb i.b = true) (hnc : namesF l fc i.c = true) (hop : i.op = 32) (w : World) :
    Calls Tryd.prog 121 #[.agg (lookOf l A1 A2 A3 A4 A5 c1 c2 c3 c4 c5 params gen), .int .i64 at_, .agg i.cells] w fun e w' => e = .returned (.bool gen) ∧ Below w.heap.size w w' := by
  obtain ⟨op, a, b, c, line⟩ := i
  obtain ⟨nf, nc, nt, regs, ng, no⟩ := l
  have hl' := hl
  obtain ⟨k1, k2, k3, k4, k5, k6, k7⟩ := hl'
  unfold Ord.cells
  unfold lookOf
  simp only at hf hl hline hna hnb hnc hop k1 k2 k3 k4 k5 k6 k7 ⊢
  have hs : formS op = ⟨#[fa, fb, fc]⟩ := by simp [formS, hf]
  have HF := Lib.hid (fun w => form_any op w)
  rw [hs] at HF
  obtain ⟨la, lb, lc⟩ := form_letters hf
  have HN1 := Lib.hid (fun w' => names_any ⟨nf, nc, nt, regs, ng, no⟩ hl A1 A2 A3 A4 A5 c1 c2 c3 c4 c5 params gen fa (by rcases la with h | h | h <;> simp [Letter, h]) a w')
  have HN2 := Lib.hid (fun w' => names_any ⟨nf, nc, nt, regs, ng, no⟩ hl A1 A2 A3 A4 A5 c1 c2 c3 c4 c5 params gen fb (by rcases lb with h | h | h | h | h | h | h | h | h <;> simp [Letter, h]) b w')
  have HN3 := Lib.hid (fun w' => names_any ⟨nf, nc, nt, regs, ng, no⟩ hl A1 A2 A3 A4 A5 c1 c2 c3 c4 c5 params gen fc (by rcases lc with h | h | h | h <;> simp [Letter, h]) c w')
  simp only at HN1 HN2 HN3
  rw [hna] at HN1
  rw [hnb] at HN2
  rw [hnc] at HN3
  have HL := Lib.hid (fun w' => within_below line 0 2000 _ hline w')
  obtain ⟨W0, hW0⟩ : ∃ W0, W0 = (w.alloc (.cells (lookCells (.slice A1 nf c1) (.slice A2 nc c2) (.slice A3 nt c3) params regs gen (.slice A4 ng c4) (.slice A5 no c5)) 187)).alloc (.cells #[.int .i64 op, .int .i64 a, .int .i64 b, .int .i64 c, .int .i64 line] 189) := ⟨_, rfl⟩
  have sz0 : W0.heap.size = w.heap.size + 2 := by rw [hW0]; simp
  have B0 : Below w.heap.size w W0 := by rw [hW0]; exact ((Below.refl _ _).alloc (Nat.le_refl _) _).alloc (by simp) _
  have fa_ : ∀ w', Below (w.heap.size + 2) W0 w' → w'.cell? ⟨w.heap.size, 0, none⟩ = some (.slice A1 nf c1) ∧ w'.cell? ⟨w.heap.size, 1, none⟩ = some (.slice A2 nc c2) ∧ w'.cell? ⟨w.heap.size, 2, none⟩ = some (.slice A3 nt c3) ∧ w'.cell? ⟨w.heap.size, 3, none⟩ = some (.int .i64 params) ∧ w'.cell? ⟨w.heap.size, 4, none⟩ = some (.int .i64 regs) ∧ w'.cell? ⟨w.heap.size, 5, none⟩ = some (.bool gen) ∧ w'.cell? ⟨w.heap.size, 6, none⟩ = some (.slice A4 ng c4) ∧ w'.cell? ⟨w.heap.size, 7, none⟩ = some (.slice A5 no c5) ∧
      w'.cell? ⟨w.heap.size + 1, 0, none⟩ = some (.int .i64 op) ∧ w'.cell? ⟨w.heap.size + 1, 1, none⟩ = some (.int .i64 a) ∧ w'.cell? ⟨w.heap.size + 1, 2, none⟩ = some (.int .i64 b) ∧ w'.cell? ⟨w.heap.size + 1, 3, none⟩ = some (.int .i64 c) ∧ w'.cell? ⟨w.heap.size + 1, 4, none⟩ = some (.int .i64 line) ∧
      w.heap.size + 1 < w'.heap.size ∧ Below (w.heap.size + 2) W0 w' := fun w' h' => by
    have e : ∀ i, w'.cell? ⟨w.heap.size, i, none⟩ = W0.cell? ⟨w.heap.size, i, none⟩ := fun i => h'.cell (p := ⟨w.heap.size, i, none⟩) (by simp)
    have e' : ∀ i, w'.cell? ⟨w.heap.size + 1, i, none⟩ = W0.cell? ⟨w.heap.size + 1, i, none⟩ := fun i => h'.cell (p := ⟨w.heap.size + 1, i, none⟩) (by simp)
    refine ⟨?_, ?_, ?_, ?_, ?_, ?_, ?_, ?_, ?_, ?_, ?_, ?_, ?_, by have := h'.size; omega, h'⟩ <;> (first | rw [e, hW0] | rw [e', hW0]) <;> simp [lookCells]
  have HFA := Lib.hid fa_
  have HB := Lib.hid B0
  have HW := Lib.hid hW0
  have HS := Lib.hid sz0
  clear fa_ B0 hW0 sz0 hf hs la lb lc hl
  have n14 : (op == 14) = false := by rw [hop]; rfl
  have n19 : (op == 19) = false := by rw [hop]; rfl
  have n27 : (op == 27) = false := by rw [hop]; rfl
  have n26 : (op == 26) = false := by rw [hop]; rfl
  have n32 : (op == 32) = true := by rw [hop]; rfl
  clear hop
  go_enter Tryd.func121, Tryd.ntmps121
  go_wp2_with fail
  refine (HF.out _).mono ?_
  rintro e w1 ⟨rfl, hb⟩
  have hb1 : Below (w.heap.size + 2) W0 w1 := by rw [HW.out]; simpa using hb
  obtain ⟨q0, q1, q2, q3, q4, q5, q6, q7, p0, p1, p2, p3, p4, szs, hb2⟩ := HFA.out _ hb1
  clear hb hb1
  go_wp2_with fail
  refine wp_region_held_drew (S := fun w' => w'.cell? ⟨w.heap.size, 0, none⟩ = some (.slice A1 nf c1) ∧ w'.cell? ⟨w.heap.size, 1, none⟩ = some (.slice A2 nc c2) ∧ w'.cell? ⟨w.heap.size, 2, none⟩ = some (.slice A3 nt c3) ∧ w'.cell? ⟨w.heap.size, 3, none⟩ = some (.int .i64 params) ∧ w'.cell? ⟨w.heap.size, 4, none⟩ = some (.int .i64 regs) ∧ w'.cell? ⟨w.heap.size, 5, none⟩ = some (.bool gen) ∧ w'.cell? ⟨w.heap.size, 6, none⟩ = some (.slice A4 ng c4) ∧ w'.cell? ⟨w.heap.size, 7, none⟩ = some (.slice A5 no c5) ∧
      w'.cell? ⟨w.heap.size + 1, 0, none⟩ = some (.int .i64 op) ∧ w'.cell? ⟨w.heap.size + 1, 1, none⟩ = some (.int .i64 a) ∧ w'.cell? ⟨w.heap.size + 1, 2, none⟩ = some (.int .i64 b) ∧ w'.cell? ⟨w.heap.size + 1, 3, none⟩ = some (.int .i64 c) ∧ w'.cell? ⟨w.heap.size + 1, 4, none⟩ = some (.int .i64 line) ∧
      w.heap.size + 1 < w'.heap.size ∧ Below (w.heap.size + 2) W0 w') (by kernel_rfl) (HFA.out _ (Below.drew (by assumption))) (fun hHeld => ?_)
  try dsimp only
  refine wpAnyH_take (i := 0) (oi := ?oi0) (v := ?vv0) ?hi0 (by kernel_rfl) (by kernel_rfl) (by kernel_rfl) ?hQ0 (Or.inl ⟨?hw0, ?hy0⟩) (by assumption) ?hh0
  case hi0 => simp only [List.getElem?_toArray, List.getElem?_cons_succ, List.getElem?_cons_zero]; rfl
  case hw0 => rfl
  case hy0 => (intro w hSw; (try dsimp only at hSw); go_simp; (try with_reducible rfl))
  case hQ0 => exact fun _ _ _ h => h
  try simp only [Act.put, List.setIfInBounds_toArray, List.set_cons_zero, List.set_cons_succ]
  refine wpAnyH_take (i := 1) (oi := ?oi1) (v := ?vv1) ?hi1 (by kernel_rfl) (by kernel_rfl) (by kernel_rfl) ?hQ1 (Or.inl ⟨?hw1, ?hy1⟩) (by assumption) ?hh1
  case hi1 => simp only [List.getElem?_toArray, List.getElem?_cons_succ, List.getElem?_cons_zero]; rfl
  case hw1 => rfl
  case hy1 => (intro w hSw; (try dsimp only at hSw); go_simp; (try with_reducible rfl))
  case hQ1 => exact fun _ _ _ h => h
  try simp only [Act.put, List.setIfInBounds_toArray, List.set_cons_zero, List.set_cons_succ]
  refine wpAnyH_take (i := 2) (oi := ?oi2) (v := ?vv2) ?hi2 (by kernel_rfl) (by kernel_rfl) (by kernel_rfl) ?hQ2 (Or.inl ⟨?hw2, ?hy2⟩) (by assumption) ?hh2
  case hi2 => simp only [List.getElem?_toArray, List.getElem?_cons_succ, List.getElem?_cons_zero]; rfl
  case hw2 => rfl
  case hy2 => (intro w hSw; (try dsimp only at hSw); go_simp; (try with_reducible rfl))
  case hQ2 => exact fun _ _ _ h => h
  try simp only [Act.put, List.setIfInBounds_toArray, List.set_cons_zero, List.set_cons_succ]
  refine wpAnyH_take (i := 3) (oi := ?oi3) (v := ?vv3) ?hi3 (by kernel_rfl) (by kernel_rfl) (by kernel_rfl) ?hQ3 (Or.inl ⟨?hw3, ?hy3⟩) (by assumption) ?hh3
  case hi3 => simp only [List.getElem?_toArray, List.getElem?_cons_succ, List.getElem?_cons_zero]; rfl
  case hw3 => rfl
  case hy3 => (intro w hSw; (try dsimp only at hSw); go_simp; (try with_reducible rfl))
  case hQ3 => exact fun _ _ _ h => h
  try simp only [Act.put, List.setIfInBounds_toArray, List.set_cons_zero, List.set_cons_succ]
  refine wpAnyH_take (i := 4) (oi := ?oi4) (v := ?vv4) ?hi4 (by kernel_rfl) (by kernel_rfl) (by kernel_rfl) ?hQ4 (Or.inl ⟨?hw4, ?hy4⟩) (by assumption) ?hh4
  case hi4 => simp only [List.getElem?_toArray, List.getElem?_cons_succ, List.getElem?_cons_zero]; rfl
  case hw4 => rfl
  case hy4 => (intro w hSw; (try dsimp only at hSw); go_simp; (try with_reducible rfl))
  case hQ4 => exact fun _ _ _ h => h
  try simp only [Act.put, List.setIfInBounds_toArray, List.set_cons_zero, List.set_cons_succ]
  refine wpAnyH_ready (rs := [5]) (by kernel_rfl) (by simp) ?_
  refine AllReadyH.cons (o := ?oi5) ?hi5 (fun K hK => ?hh5) AllReadyH.nil
  case hi5 => simp only [List.getElem?_toArray, List.getElem?_cons_succ, List.getElem?_cons_zero]; rfl
  go_simp
  go_at_call 145
  refine (HL.out _).mono ?_
  rintro e w' ⟨rfl, hbb⟩
  go_wp2_with fail
  refine hK.out _ _ ?_ (fun hHeld2 => ?_)
  · (first | exact HFA.out _ (Below.drew (by assumption)) | (go_split_ands; exact HFA.out _ ((by assumption : Below (w.heap.size + 2) W0 _).trans (hbb.mono (by omega)))))
  clear hK K hHeld
  have hHeld := hHeld2
  clear hHeld2
  try simp only [Act.put, List.setIfInBounds_toArray, List.set_cons_zero, List.set_cons_succ]
  refine wpAnyH_take (i := 6) (oi := ?oi6) (v := ?vv6) ?hi6 (by kernel_rfl) (by kernel_rfl) (by kernel_rfl) ?hQ6 (Or.inl ⟨?hw6, ?hy6⟩) (by assumption) ?hh6
  case hi6 => simp only [List.getElem?_toArray, List.getElem?_cons_succ, List.getElem?_cons_zero]; rfl
  case hw6 => rfl
  case hy6 => (intro w hSw; (try dsimp only at hSw); go_simp; (try with_reducible rfl))
  case hQ6 => exact fun _ _ _ h => h
  try simp only [Act.put, List.setIfInBounds_toArray, List.set_cons_zero, List.set_cons_succ]
  refine wpAnyH_take (i := 7) (oi := ?oi7) (v := ?vv7) ?hi7 (by kernel_rfl) (by kernel_rfl) (by kernel_rfl) ?hQ7 (Or.inl ⟨?hw7, ?hy7⟩) (by assumption) ?hh7
  case hi7 => simp only [List.getElem?_toArray, List.getElem?_cons_succ, List.getElem?_cons_zero]; rfl
  case hw7 => rfl
  case hy7 => (intro w hSw; (try dsimp only at hSw); go_simp; (try with_reducible rfl))
  case hQ7 => exact fun _ _ _ h => h
  try simp only [Act.put, List.setIfInBounds_toArray, List.set_cons_zero, List.set_cons_succ]
  refine wpAnyH_take (i := 8) (oi := ?oi8) (v := ?vv8) ?hi8 (by kernel_rfl) (by kernel_rfl) (by kernel_rfl) ?hQ8 (Or.inl ⟨?hw8, ?hy8⟩) (by assumption) ?hh8
  case hi8 => simp only [List.getElem?_toArray, List.getElem?_cons_succ, List.getElem?_cons_zero]; rfl
  case hw8 => rfl
  case hy8 => (intro w hSw; (try dsimp only at hSw); go_simp; (try with_reducible rfl))
  case hQ8 => exact fun _ _ _ h => h
  try simp only [Act.put, List.setIfInBounds_toArray, List.set_cons_zero, List.set_cons_succ]
  refine wpAnyH_take (i := 9) (oi := ?oi9) (v := ?vv9) ?hi9 (by kernel_rfl) (by kernel_rfl) (by kernel_rfl) ?hQ9 (Or.inl ⟨?hw9, ?hy9⟩) (by assumption) ?hh9
  case hi9 => simp only [List.getElem?_toArray, List.getElem?_cons_succ, List.getElem?_cons_zero]; rfl
  case hw9 => rfl
  case hy9 => (intro w hSw; (try dsimp only at hSw); go_simp; (try with_reducible rfl))
  case hQ9 => exact fun _ _ _ h => h
  try simp only [Act.put, List.setIfInBounds_toArray, List.set_cons_zero, List.set_cons_succ]
  refine wpAnyH_take (i := 10) (oi := ?oi10) (v := ?vv10) ?hi10 (by kernel_rfl) (by kernel_rfl) (by kernel_rfl) ?hQ10 (Or.inl ⟨?hw10, ?hy10⟩) (by assumption) ?hh10
  case hi10 => simp only [List.getElem?_toArray, List.getElem?_cons_succ, List.getElem?_cons_zero]; rfl
  case hw10 => rfl
  case hy10 => (intro w hSw; (try dsimp only at hSw); go_simp; (try with_reducible rfl))
  case hQ10 => exact fun _ _ _ h => h
  try simp only [Act.put, List.setIfInBounds_toArray, List.set_cons_zero, List.set_cons_succ]
  refine wpAnyH_take (i := 11) (oi := ?oi11) (v := ?vv11) ?hi11 (by kernel_rfl) (by kernel_rfl) (by kernel_rfl) ?hQ11 (Or.inl ⟨?hw11, ?hy11⟩) (by assumption) ?hh11
  case hi11 => simp only [List.getElem?_toArray, List.getElem?_cons_succ, List.getElem?_cons_zero]; rfl
  case hw11 => rfl
  case hy11 => (intro w hSw; (try dsimp only at hSw); go_simp; (try with_reducible rfl))
  case hQ11 => exact fun _ _ _ h => h
  try simp only [Act.put, List.setIfInBounds_toArray, List.set_cons_zero, List.set_cons_succ]
  refine wpAnyH_take (i := 12) (oi := ?oi12) (v := ?vv12) ?hi12 (by kernel_rfl) (by kernel_rfl) (by kernel_rfl) ?hQ12 (Or.inl ⟨?hw12, ?hy12⟩) (by assumption) ?hh12
  case hi12 => simp only [List.getElem?_toArray, List.getElem?_cons_succ, List.getElem?_cons_zero]; rfl
  case hw12 => rfl
  case hy12 => (intro w hSw; (try dsimp only at hSw); go_simp; (try with_reducible rfl))
  case hQ12 => exact fun _ _ _ h => h
  try simp only [Act.put, List.setIfInBounds_toArray, List.set_cons_zero, List.set_cons_succ]
  refine wpAnyH_take (i := 13) (oi := ?oi13) (v := ?vv13) ?hi13 (by kernel_rfl) (by kernel_rfl) (by kernel_rfl) ?hQ13 (Or.inl ⟨?hw13, ?hy13⟩) (by assumption) ?hh13
  case hi13 => simp only [List.getElem?_toArray, List.getElem?_cons_succ, List.getElem?_cons_zero]; rfl
  case hw13 => rfl
  case hy13 => (intro w hSw; (try dsimp only at hSw); go_simp; (try with_reducible rfl))
  case hQ13 => exact fun _ _ _ h => h
  try simp only [Act.put, List.setIfInBounds_toArray, List.set_cons_zero, List.set_cons_succ]
  refine wpAnyH_ready (rs := [14]) (by kernel_rfl) (by simp) ?_
  refine AllReadyH.cons (o := ?oi14) ?hi14 (fun K hK => ?hh14) AllReadyH.nil
  case hi14 => simp only [List.getElem?_toArray, List.getElem?_cons_succ, List.getElem?_cons_zero]; rfl
  go_simp
  go_at_call 146
  refine (HN1.out _).mono ?_
  rintro e w' ⟨rfl, hbb⟩
  go_wp2_with fail
  refine hK.out _ _ ?_ (fun hHeld2 => ?_)
  · (first | exact HFA.out _ (Below.drew (by assumption)) | (go_split_ands; exact HFA.out _ ((by assumption : Below (w.heap.size + 2) W0 _).trans (hbb.mono (by omega)))))
  clear hK K hHeld
  have hHeld := hHeld2
  clear hHeld2
  try simp only [Act.put, List.setIfInBounds_toArray, List.set_cons_zero, List.set_cons_succ]
  refine wpAnyH_take (i := 15) (oi := ?oi15) (v := ?vv15) ?hi15 (by kernel_rfl) (by kernel_rfl) (by kernel_rfl) ?hQ15 (Or.inl ⟨?hw15, ?hy15⟩) (by assumption) ?hh15
  case hi15 => simp only [List.getElem?_toArray, List.getElem?_cons_succ, List.getElem?_cons_zero]; rfl
  case hw15 => rfl
  case hy15 => (intro w hSw; (try dsimp only at hSw); go_simp; (try with_reducible rfl))
  case hQ15 => exact fun _ _ _ h => h
  try simp only [Act.put, List.setIfInBounds_toArray, List.set_cons_zero, List.set_cons_succ]
  refine wpAnyH_take (i := 16) (oi := ?oi16) (v := ?vv16) ?hi16 (by kernel_rfl) (by kernel_rfl) (by kernel_rfl) ?hQ16 (Or.inl ⟨?hw16, ?hy16⟩) (by assumption) ?hh16
  case hi16 => simp only [List.getElem?_toArray, List.getElem?_cons_succ, List.getElem?_cons_zero]; rfl
  case hw16 => rfl
  case hy16 => (intro w hSw; (try dsimp only at hSw); go_simp; (try with_reducible rfl))
  case hQ16 => exact fun _ _ _ h => h
  try simp only [Act.put, List.setIfInBounds_toArray, List.set_cons_zero, List.set_cons_succ]
  refine wpAnyH_take (i := 17) (oi := ?oi17) (v := ?vv17) ?hi17 (by kernel_rfl) (by kernel_rfl) (by kernel_rfl) ?hQ17 (Or.inl ⟨?hw17, ?hy17⟩) (by assumption) ?hh17
  case hi17 => simp only [List.getElem?_toArray, List.getElem?_cons_succ, List.getElem?_cons_zero]; rfl
  case hw17 => rfl
  case hy17 => (intro w hSw; (try dsimp only at hSw); go_simp; (try with_reducible rfl))
  case hQ17 => exact fun _ _ _ h => h
  try simp only [Act.put, List.setIfInBounds_toArray, List.set_cons_zero, List.set_cons_succ]
  refine wpAnyH_take (i := 18) (oi := ?oi18) (v := ?vv18) ?hi18 (by kernel_rfl) (by kernel_rfl) (by kernel_rfl) ?hQ18 (Or.inl ⟨?hw18, ?hy18⟩) (by assumption) ?hh18
  case hi18 => simp only [List.getElem?_toArray, List.getElem?_cons_succ, List.getElem?_cons_zero]; rfl
  case hw18 => rfl
  case hy18 => (intro w hSw; (try dsimp only at hSw); go_simp; (try with_reducible rfl))
  case hQ18 => exact fun _ _ _ h => h
  try simp only [Act.put, List.setIfInBounds_toArray, List.set_cons_zero, List.set_cons_succ]
  refine wpAnyH_take (i := 19) (oi := ?oi19) (v := ?vv19) ?hi19 (by kernel_rfl) (by kernel_rfl) (by kernel_rfl) ?hQ19 (Or.inl ⟨?hw19, ?hy19⟩) (by assumption) ?hh19
  case hi19 => simp only [List.getElem?_toArray, List.getElem?_cons_succ, List.getElem?_cons_zero]; rfl
  case hw19 => rfl
  case hy19 => (intro w hSw; (try dsimp only at hSw); go_simp; (try with_reducible rfl))
  case hQ19 => exact fun _ _ _ h => h
  try simp only [Act.put, List.setIfInBounds_toArray, List.set_cons_zero, List.set_cons_succ]
  refine wpAnyH_take (i := 20) (oi := ?oi20) (v := ?vv20) ?hi20 (by kernel_rfl) (by kernel_rfl) (by kernel_rfl) ?hQ20 (Or.inl ⟨?hw20, ?hy20⟩) (by assumption) ?hh20
  case hi20 => simp only [List.getElem?_toArray, List.getElem?_cons_succ, List.getElem?_cons_zero]; rfl
  case hw20 => rfl
  case hy20 => (intro w hSw; (try dsimp only at hSw); go_simp; (try with_reducible rfl))
  case hQ20 => exact fun _ _ _ h => h
  try simp only [Act.put, List.setIfInBounds_toArray, List.set_cons_zero, List.set_cons_succ]
  refine wpAnyH_take (i := 21) (oi := ?oi21) (v := ?vv21) ?hi21 (by kernel_rfl) (by kernel_rfl) (by kernel_rfl) ?hQ21 (Or.inl ⟨?hw21, ?hy21⟩) (by assumption) ?hh21
  case hi21 => simp only [List.getElem?_toArray, List.getElem?_cons_succ, List.getElem?_cons_zero]; rfl
  case hw21 => rfl
  case hy21 => (intro w hSw; (try dsimp only at hSw); go_simp; (try with_reducible rfl))
  case hQ21 => exact fun _ _ _ h => h
  try simp only [Act.put, List.setIfInBounds_toArray, List.set_cons_zero, List.set_cons_succ]
  refine wpAnyH_take (i := 22) (oi := ?oi22) (v := ?vv22) ?hi22 (by kernel_rfl) (by kernel_rfl) (by kernel_rfl) ?hQ22 (Or.inl ⟨?hw22, ?hy22⟩) (by assumption) ?hh22
  case hi22 => simp only [List.getElem?_toArray, List.getElem?_cons_succ, List.getElem?_cons_zero]; rfl
  case hw22 => rfl
  case hy22 => (intro w hSw; (try dsimp only at hSw); go_simp; (try with_reducible rfl))
  case hQ22 => exact fun _ _ _ h => h
  try simp only [Act.put, List.setIfInBounds_toArray, List.set_cons_zero, List.set_cons_succ]
  refine wpAnyH_ready (rs := [23]) (by kernel_rfl) (by simp) ?_
  refine AllReadyH.cons (o := ?oi23) ?hi23 (fun K hK => ?hh23) AllReadyH.nil
  case hi23 => simp only [List.getElem?_toArray, List.getElem?_cons_succ, List.getElem?_cons_zero]; rfl
  go_simp
  go_at_call 146
  refine (HN2.out _).mono ?_
  rintro e w' ⟨rfl, hbb⟩
  go_wp2_with fail
  refine hK.out _ _ ?_ (fun hHeld2 => ?_)
  · (first | exact HFA.out _ (Below.drew (by assumption)) | (go_split_ands; exact HFA.out _ ((by assumption : Below (w.heap.size + 2) W0 _).trans (hbb.mono (by omega)))))
  clear hK K hHeld
  have hHeld := hHeld2
  clear hHeld2
  try simp only [Act.put, List.setIfInBounds_toArray, List.set_cons_zero, List.set_cons_succ]
  refine wpAnyH_take (i := 24) (oi := ?oi24) (v := ?vv24) ?hi24 (by kernel_rfl) (by kernel_rfl) (by kernel_rfl) ?hQ24 (Or.inl ⟨?hw24, ?hy24⟩) (by assumption) ?hh24
  case hi24 => simp only [List.getElem?_toArray, List.getElem?_cons_succ, List.getElem?_cons_zero]; rfl
  case hw24 => rfl
  case hy24 => (intro w hSw; (try dsimp only at hSw); go_simp; (try with_reducible rfl))
  case hQ24 => exact fun _ _ _ h => h
  try simp only [Act.put, List.setIfInBounds_toArray, List.set_cons_zero, List.set_cons_succ]
  refine wpAnyH_take (i := 25) (oi := ?oi25) (v := ?vv25) ?hi25 (by kernel_rfl) (by kernel_rfl) (by kernel_rfl) ?hQ25 (Or.inl ⟨?hw25, ?hy25⟩) (by assumption) ?hh25
  case hi25 => simp only [List.getElem?_toArray, List.getElem?_cons_succ, List.getElem?_cons_zero]; rfl
  case hw25 => rfl
  case hy25 => (intro w hSw; (try dsimp only at hSw); go_simp; (try with_reducible rfl))
  case hQ25 => exact fun _ _ _ h => h
  try simp only [Act.put, List.setIfInBounds_toArray, List.set_cons_zero, List.set_cons_succ]
  refine wpAnyH_take (i := 26) (oi := ?oi26) (v := ?vv26) ?hi26 (by kernel_rfl) (by kernel_rfl) (by kernel_rfl) ?hQ26 (Or.inl ⟨?hw26, ?hy26⟩) (by assumption) ?hh26
  case hi26 => simp only [List.getElem?_toArray, List.getElem?_cons_succ, List.getElem?_cons_zero]; rfl
  case hw26 => rfl
  case hy26 => (intro w hSw; (try dsimp only at hSw); go_simp; (try with_reducible rfl))
  case hQ26 => exact fun _ _ _ h => h
  try simp only [Act.put, List.setIfInBounds_toArray, List.set_cons_zero, List.set_cons_succ]
  refine wpAnyH_take (i := 27) (oi := ?oi27) (v := ?vv27) ?hi27 (by kernel_rfl) (by kernel_rfl) (by kernel_rfl) ?hQ27 (Or.inl ⟨?hw27, ?hy27⟩) (by assumption) ?hh27
  case hi27 => simp only [List.getElem?_toArray, List.getElem?_cons_succ, List.getElem?_cons_zero]; rfl
  case hw27 => rfl
  case hy27 => (intro w hSw; (try dsimp only at hSw); go_simp; (try with_reducible rfl))
  case hQ27 => exact fun _ _ _ h => h
  try simp only [Act.put, List.setIfInBounds_toArray, List.set_cons_zero, List.set_cons_succ]
  refine wpAnyH_take (i := 28) (oi := ?oi28) (v := ?vv28) ?hi28 (by kernel_rfl) (by kernel_rfl) (by kernel_rfl) ?hQ28 (Or.inl ⟨?hw28, ?hy28⟩) (by assumption) ?hh28
  case hi28 => simp only [List.getElem?_toArray, List.getElem?_cons_succ, List.getElem?_cons_zero]; rfl
  case hw28 => rfl
  case hy28 => (intro w hSw; (try dsimp only at hSw); go_simp; (try with_reducible rfl))
  case hQ28 => exact fun _ _ _ h => h
  try simp only [Act.put, List.setIfInBounds_toArray, List.set_cons_zero, List.set_cons_succ]
  refine wpAnyH_take (i := 29) (oi := ?oi29) (v := ?vv29) ?hi29 (by kernel_rfl) (by kernel_rfl) (by kernel_rfl) ?hQ29 (Or.inl ⟨?hw29, ?hy29⟩) (by assumption) ?hh29
  case hi29 => simp only [List.getElem?_toArray, List.getElem?_cons_succ, List.getElem?_cons_zero]; rfl
  case hw29 => rfl
  case hy29 => (intro w hSw; (try dsimp only at hSw); go_simp; (try with_reducible rfl))
  case hQ29 => exact fun _ _ _ h => h
  try simp only [Act.put, List.setIfInBounds_toArray, List.set_cons_zero, List.set_cons_succ]
  refine wpAnyH_take (i := 30) (oi := ?oi30) (v := ?vv30) ?hi30 (by kernel_rfl) (by kernel_rfl) (by kernel_rfl) ?hQ30 (Or.inl ⟨?hw30, ?hy30⟩) (by assumption) ?hh30
  case hi30 => simp only [List.getElem?_toArray, List.getElem?_cons_succ, List.getElem?_cons_zero]; rfl
  case hw30 => rfl
  case hy30 => (intro w hSw; (try dsimp only at hSw); go_simp; (try with_reducible rfl))
  case hQ30 => exact fun _ _ _ h => h
  try simp only [Act.put, List.setIfInBounds_toArray, List.set_cons_zero, List.set_cons_succ]
  refine wpAnyH_take (i := 31) (oi := ?oi31) (v := ?vv31) ?hi31 (by kernel_rfl) (by kernel_rfl) (by kernel_rfl) ?hQ31 (Or.inl ⟨?hw31, ?hy31⟩) (by assumption) ?hh31
  case hi31 => simp only [List.getElem?_toArray, List.getElem?_cons_succ, List.getElem?_cons_zero]; rfl
  case hw31 => rfl
  case hy31 => (intro w hSw; (try dsimp only at hSw); go_simp; (try with_reducible rfl))
  case hQ31 => exact fun _ _ _ h => h
  try simp only [Act.put, List.setIfInBounds_toArray, List.set_cons_zero, List.set_cons_succ]
  refine wpAnyH_ready (rs := [32]) (by kernel_rfl) (by simp) ?_
  refine AllReadyH.cons (o := ?oi32) ?hi32 (fun K hK => ?hh32) AllReadyH.nil
  case hi32 => simp only [List.getElem?_toArray, List.getElem?_cons_succ, List.getElem?_cons_zero]; rfl
  go_simp
  go_at_call 146
  refine (HN3.out _).mono ?_
  rintro e w' ⟨rfl, hbb⟩
  go_wp2_with fail
  refine hK.out _ _ ?_ (fun hHeld2 => ?_)
  · (first | exact HFA.out _ (Below.drew (by assumption)) | (go_split_ands; exact HFA.out _ ((by assumption : Below (w.heap.size + 2) W0 _).trans (hbb.mono (by omega)))))
  clear hK K hHeld
  have hHeld := hHeld2
  clear hHeld2
  try simp only [Act.put, List.setIfInBounds_toArray, List.set_cons_zero, List.set_cons_succ]
  refine wpAnyH_take (i := 33) (oi := ?oi33) (v := ?vv33) ?hi33 (by kernel_rfl) (by kernel_rfl) (by kernel_rfl) ?hQ33 (Or.inl ⟨?hw33, ?hy33⟩) (by assumption) ?hh33
  case hi33 => simp only [List.getElem?_toArray, List.getElem?_cons_succ, List.getElem?_cons_zero]; rfl
  case hw33 => rfl
  case hy33 => (intro w hSw; (try dsimp only at hSw); go_simp; (try with_reducible rfl))
  case hQ33 => exact fun _ _ _ h => h
  try simp only [Act.put, List.setIfInBounds_toArray, List.set_cons_zero, List.set_cons_succ]
  refine wpAnyH_take (i := 34) (oi := ?oi34) (v := ?vv34) ?hi34 (by kernel_rfl) (by kernel_rfl) (by kernel_rfl) ?hQ34 (Or.inl ⟨?hw34, ?hy34⟩) (by assumption) ?hh34
  case hi34 => simp only [List.getElem?_toArray, List.getElem?_cons_succ, List.getElem?_cons_zero]; rfl
  case hw34 => rfl
  case hy34 => (intro w hSw; (try dsimp only at hSw); go_simp; (try with_reducible rfl))
  case hQ34 => exact fun _ _ _ h => h
  try simp only [Act.put, List.setIfInBounds_toArray, List.set_cons_zero, List.set_cons_succ]
  refine wpAnyH_done (by kernel_rfl) ?_ _
  go_split_ands
  go_wp2_with fail
  go_ret
  exact ⟨rfl, HB.out.trans (Below.mono (by assumption) (by omega))⟩


set_option maxRecDepth 100000 in
set_option maxHeartbeats 8000000 in
theorem order_19 (l : Lk) (hl : l.Ok) (A1 A2 A3 A4 A5 : Option Addr) (c1 c2 c3 c4 c5 : Nat) (params : Int) (gen : Bool) (at_ : Int) (i : Ord) (fa fb fc : UInt8) (hf : formF i.op = some (fa, fb, fc)) (hline : withinF i.line 0 2000 = true) (hna : namesF l fa i.a = true) (hnb : namesF l fb i.b = true) (hnc : namesF l fc i.c = true) (hbc : 0 ≤ i.b ∧ i.b ≤ l.regs ∧ 0 ≤ i.c ∧ i.c ≤ l.regs ∧ l.regs ≤ 60) (hop : i.op = 19) (w : World) :
    Calls Tryd.prog 121 #[.agg (lookOf l A1 A2 A3 A4 A5 c1 c2 c3 c4 c5 params gen), .int .i64 at_, .agg i.cells] w fun e w' => e = .returned (.bool (decide (i.b + i.c ≤ l.regs))) ∧ Below w.heap.size w w' := by
  obtain ⟨op, a, b, c, line⟩ := i
  obtain ⟨nf, nc, nt, regs, ng, no⟩ := l
  have hl' := hl
  obtain ⟨k1, k2, k3, k4, k5, k6, k7⟩ := hl'
  unfold Ord.cells
  unfold lookOf
  simp only at hf hl hline hna hnb hnc hbc hop k1 k2 k3 k4 k5 k6 k7 ⊢
  have hs : formS op = ⟨#[fa, fb, fc]⟩ := by simp [formS, hf]
  have HF := Lib.hid (fun w => form_any op w)
  rw [hs] at HF
  obtain ⟨la, lb, lc⟩ := form_letters hf
  have HN1 := Lib.hid (fun w' => names_any ⟨nf, nc, nt, regs, ng, no⟩ hl A1 A2 A3 A4 A5 c1 c2 c3 c4 c5 params gen fa (by rcases la with h | h | h <;> simp [Letter, h]) a w')
  have HN2 := Lib.hid (fun w' => names_any ⟨nf, nc, nt, regs, ng, no⟩ hl A1 A2 A3 A4 A5 c1 c2 c3 c4 c5 params gen fb (by rcases lb with h | h | h | h | h | h | h | h | h <;> simp [Letter, h]) b w')
  have HN3 := Lib.hid (fun w' => names_any ⟨nf, nc, nt, regs, ng, no⟩ hl A1 A2 A3 A4 A5 c1 c2 c3 c4 c5 params gen fc (by rcases lc with h | h | h | h <;> simp [Letter, h]) c w')
  simp only at HN1 HN2 HN3
  rw [hna] at HN1
  rw [hnb] at HN2
  rw [hnc] at HN3
  have HL := Lib.hid (fun w' => within_below line 0 2000 _ hline w')
  obtain ⟨W0, hW0⟩ : ∃ W0, W0 = (w.alloc (.cells (lookCells (.slice A1 nf c1) (.slice A2 nc c2) (.slice A3 nt c3) params regs gen (.slice A4 ng c4) (.slice A5 no c5)) 187)).alloc (.cells #[.int .i64 op, .int .i64 a, .int .i64 b, .int .i64 c, .int .i64 line] 189) := ⟨_, rfl⟩
  have sz0 : W0.heap.size = w.heap.size + 2 := by rw [hW0]; simp
  have B0 : Below w.heap.size w W0 := by rw [hW0]; exact ((Below.refl _ _).alloc (Nat.le_refl _) _).alloc (by simp) _
  have fa_ : ∀ w', Below (w.heap.size + 2) W0 w' → w'.cell? ⟨w.heap.size, 0, none⟩ = some (.slice A1 nf c1) ∧ w'.cell? ⟨w.heap.size, 1, none⟩ = some (.slice A2 nc c2) ∧ w'.cell? ⟨w.heap.size, 2, none⟩ = some (.slice A3 nt c3) ∧ w'.cell? ⟨w.heap.size, 3, none⟩ = some (.int .i64 params) ∧ w'.cell? ⟨w.heap.size, 4, none⟩ = some (.int .i64 regs) ∧ w'.cell? ⟨w.heap.size, 5, none⟩ = some (.bool gen) ∧ w'.cell? ⟨w.heap.size, 6, none⟩ = some (.slice A4 ng c4) ∧ w'.cell? ⟨w.heap.size, 7, none⟩ = some (.slice A5 no c5) ∧
      w'.cell? ⟨w.heap.size + 1, 0, none⟩ = some (.int .i64 op) ∧ w'.cell? ⟨w.heap.size + 1, 1, none⟩ = some (.int .i64 a) ∧ w'.cell? ⟨w.heap.size + 1, 2, none⟩ = some (.int .i64 b) ∧ w'.cell? ⟨w.heap.size + 1, 3, none⟩ = some (.int .i64 c) ∧ w'.cell? ⟨w.heap.size + 1, 4, none⟩ = some (.int .i64 line) ∧
      w.heap.size + 1 < w'.heap.size ∧ Below (w.heap.size + 2) W0 w' := fun w' h' => by
    have e : ∀ i, w'.cell? ⟨w.heap.size, i, none⟩ = W0.cell? ⟨w.heap.size, i, none⟩ := fun i => h'.cell (p := ⟨w.heap.size, i, none⟩) (by simp)
    have e' : ∀ i, w'.cell? ⟨w.heap.size + 1, i, none⟩ = W0.cell? ⟨w.heap.size + 1, i, none⟩ := fun i => h'.cell (p := ⟨w.heap.size + 1, i, none⟩) (by simp)
    refine ⟨?_, ?_, ?_, ?_, ?_, ?_, ?_, ?_, ?_, ?_, ?_, ?_, ?_, by have := h'.size; omega, h'⟩ <;> (first | rw [e, hW0] | rw [e', hW0]) <;> simp [lookCells]
  have HFA := Lib.hid fa_
  have HB := Lib.hid B0
  have HW := Lib.hid hW0
  have HS := Lib.hid sz0
  clear fa_ B0 hW0 sz0 hf hs la lb lc hl
  obtain ⟨g1, g2, g3, g4, g5⟩ := hbc
  have n14 : (op == 14) = false := by rw [hop]; rfl
  have n19 : (op == 19) = true := by rw [hop]; rfl
  clear hop
  go_enter Tryd.func121, Tryd.ntmps121
  go_wp2_with fail
  refine (HF.out _).mono ?_
  rintro e w1 ⟨rfl, hb⟩
  have hb1 : Below (w.heap.size + 2) W0 w1 := by rw [HW.out]; simpa using hb
  obtain ⟨q0, q1, q2, q3, q4, q5, q6, q7, p0, p1, p2, p3, p4, szs, hb2⟩ := HFA.out _ hb1
  clear hb hb1
  go_wp2_with fail
  refine wp_region_held_drew (S := fun w' => w'.cell? ⟨w.heap.size, 0, none⟩ = some (.slice A1 nf c1) ∧ w'.cell? ⟨w.heap.size, 1, none⟩ = some (.slice A2 nc c2) ∧ w'.cell? ⟨w.heap.size, 2, none⟩ = some (.slice A3 nt c3) ∧ w'.cell? ⟨w.heap.size, 3, none⟩ = some (.int .i64 params) ∧ w'.cell? ⟨w.heap.size, 4, none⟩ = some (.int .i64 regs) ∧ w'.cell? ⟨w.heap.size, 5, none⟩ = some (.bool gen) ∧ w'.cell? ⟨w.heap.size, 6, none⟩ = some (.slice A4 ng c4) ∧ w'.cell? ⟨w.heap.size, 7, none⟩ = some (.slice A5 no c5) ∧
      w'.cell? ⟨w.heap.size + 1, 0, none⟩ = some (.int .i64 op) ∧ w'.cell? ⟨w.heap.size + 1, 1, none⟩ = some (.int .i64 a) ∧ w'.cell? ⟨w.heap.size + 1, 2, none⟩ = some (.int .i64 b) ∧ w'.cell? ⟨w.heap.size + 1, 3, none⟩ = some (.int .i64 c) ∧ w'.cell? ⟨w.heap.size + 1, 4, none⟩ = some (.int .i64 line) ∧
      w.heap.size + 1 < w'.heap.size ∧ Below (w.heap.size + 2) W0 w') (by kernel_rfl) (HFA.out _ (Below.drew (by assumption))) (fun hHeld => ?_)
  try dsimp only
  refine wpAnyH_take (i := 0) (oi := ?oi0) (v := ?vv0) ?hi0 (by kernel_rfl) (by kernel_rfl) (by kernel_rfl) ?hQ0 (Or.inl ⟨?hw0, ?hy0⟩) (by assumption) ?hh0
  case hi0 => simp only [List.getElem?_toArray, List.getElem?_cons_succ, List.getElem?_cons_zero]; rfl
  case hw0 => rfl
  case hy0 => (intro w hSw; (try dsimp only at hSw); go_simp; (try with_reducible rfl))
  case hQ0 => exact fun _ _ _ h => h
  try simp only [Act.put, List.setIfInBounds_toArray, List.set_cons_zero, List.set_cons_succ]
  refine wpAnyH_take (i := 1) (oi := ?oi1) (v := ?vv1) ?hi1 (by kernel_rfl) (by kernel_rfl) (by kernel_rfl) ?hQ1 (Or.inl ⟨?hw1, ?hy1⟩) (by assumption) ?hh1
  case hi1 => simp only [List.getElem?_toArray, List.getElem?_cons_succ, List.getElem?_cons_zero]; rfl
  case hw1 => rfl
  case hy1 => (intro w hSw; (try dsimp only at hSw); go_simp; (try with_reducible rfl))
  case hQ1 => exact fun _ _ _ h => h
  try simp only [Act.put, List.setIfInBounds_toArray, List.set_cons_zero, List.set_cons_succ]
  refine wpAnyH_take (i := 2) (oi := ?oi2) (v := ?vv2) ?hi2 (by kernel_rfl) (by kernel_rfl) (by kernel_rfl) ?hQ2 (Or.inl ⟨?hw2, ?hy2⟩) (by assumption) ?hh2
  case hi2 => simp only [List.getElem?_toArray, List.getElem?_cons_succ, List.getElem?_cons_zero]; rfl
  case hw2 => rfl
  case hy2 => (intro w hSw; (try dsimp only at hSw); go_simp; (try with_reducible rfl))
  case hQ2 => exact fun _ _ _ h => h
  try simp only [Act.put, List.setIfInBounds_toArray, List.set_cons_zero, List.set_cons_succ]
  refine wpAnyH_take (i := 3) (oi := ?oi3) (v := ?vv3) ?hi3 (by kernel_rfl) (by kernel_rfl) (by kernel_rfl) ?hQ3 (Or.inl ⟨?hw3, ?hy3⟩) (by assumption) ?hh3
  case hi3 => simp only [List.getElem?_toArray, List.getElem?_cons_succ, List.getElem?_cons_zero]; rfl
  case hw3 => rfl
  case hy3 => (intro w hSw; (try dsimp only at hSw); go_simp; (try with_reducible rfl))
  case hQ3 => exact fun _ _ _ h => h
  try simp only [Act.put, List.setIfInBounds_toArray, List.set_cons_zero, List.set_cons_succ]
  refine wpAnyH_take (i := 4) (oi := ?oi4) (v := ?vv4) ?hi4 (by kernel_rfl) (by kernel_rfl) (by kernel_rfl) ?hQ4 (Or.inl ⟨?hw4, ?hy4⟩) (by assumption) ?hh4
  case hi4 => simp only [List.getElem?_toArray, List.getElem?_cons_succ, List.getElem?_cons_zero]; rfl
  case hw4 => rfl
  case hy4 => (intro w hSw; (try dsimp only at hSw); go_simp; (try with_reducible rfl))
  case hQ4 => exact fun _ _ _ h => h
  try simp only [Act.put, List.setIfInBounds_toArray, List.set_cons_zero, List.set_cons_succ]
  refine wpAnyH_ready (rs := [5]) (by kernel_rfl) (by simp) ?_
  refine AllReadyH.cons (o := ?oi5) ?hi5 (fun K hK => ?hh5) AllReadyH.nil
  case hi5 => simp only [List.getElem?_toArray, List.getElem?_cons_succ, List.getElem?_cons_zero]; rfl
  go_simp
  go_at_call 145
  refine (HL.out _).mono ?_
  rintro e w' ⟨rfl, hbb⟩
  go_wp2_with fail
  refine hK.out _ _ ?_ (fun hHeld2 => ?_)
  · (first | exact HFA.out _ (Below.drew (by assumption)) | (go_split_ands; exact HFA.out _ ((by assumption : Below (w.heap.size + 2) W0 _).trans (hbb.mono (by omega)))))
  clear hK K hHeld
  have hHeld := hHeld2
  clear hHeld2
  try simp only [Act.put, List.setIfInBounds_toArray, List.set_cons_zero, List.set_cons_succ]
  refine wpAnyH_take (i := 6) (oi := ?oi6) (v := ?vv6) ?hi6 (by kernel_rfl) (by kernel_rfl) (by kernel_rfl) ?hQ6 (Or.inl ⟨?hw6, ?hy6⟩) (by assumption) ?hh6
  case hi6 => simp only [List.getElem?_toArray, List.getElem?_cons_succ, List.getElem?_cons_zero]; rfl
  case hw6 => rfl
  case hy6 => (intro w hSw; (try dsimp only at hSw); go_simp; (try with_reducible rfl))
  case hQ6 => exact fun _ _ _ h => h
  try simp only [Act.put, List.setIfInBounds_toArray, List.set_cons_zero, List.set_cons_succ]
  refine wpAnyH_take (i := 7) (oi := ?oi7) (v := ?vv7) ?hi7 (by kernel_rfl) (by kernel_rfl) (by kernel_rfl) ?hQ7 (Or.inl ⟨?hw7, ?hy7⟩) (by assumption) ?hh7
  case hi7 => simp only [List.getElem?_toArray, List.getElem?_cons_succ, List.getElem?_cons_zero]; rfl
  case hw7 => rfl
  case hy7 => (intro w hSw; (try dsimp only at hSw); go_simp; (try with_reducible rfl))
  case hQ7 => exact fun _ _ _ h => h
  try simp only [Act.put, List.setIfInBounds_toArray, List.set_cons_zero, List.set_cons_succ]
  refine wpAnyH_take (i := 8) (oi := ?oi8) (v := ?vv8) ?hi8 (by kernel_rfl) (by kernel_rfl) (by kernel_rfl) ?hQ8 (Or.inl ⟨?hw8, ?hy8⟩) (by assumption) ?hh8
  case hi8 => simp only [List.getElem?_toArray, List.getElem?_cons_succ, List.getElem?_cons_zero]; rfl
  case hw8 => rfl
  case hy8 => (intro w hSw; (try dsimp only at hSw); go_simp; (try with_reducible rfl))
  case hQ8 => exact fun _ _ _ h => h
  try simp only [Act.put, List.setIfInBounds_toArray, List.set_cons_zero, List.set_cons_succ]
  refine wpAnyH_take (i := 9) (oi := ?oi9) (v := ?vv9) ?hi9 (by kernel_rfl) (by kernel_rfl) (by kernel_rfl) ?hQ9 (Or.inl ⟨?hw9, ?hy9⟩) (by assumption) ?hh9
  case hi9 => simp only [List.getElem?_toArray, List.getElem?_cons_succ, List.getElem?_cons_zero]; rfl
  case hw9 => rfl
  case hy9 => (intro w hSw; (try dsimp only at hSw); go_simp; (try with_reducible rfl))
  case hQ9 => exact fun _ _ _ h => h
  try simp only [Act.put, List.setIfInBounds_toArray, List.set_cons_zero, List.set_cons_succ]
  refine wpAnyH_take (i := 10) (oi := ?oi10) (v := ?vv10) ?hi10 (by kernel_rfl) (by kernel_rfl) (by kernel_rfl) ?hQ10 (Or.inl ⟨?hw10, ?hy10⟩) (by assumption) ?hh10
  case hi10 => simp only [List.getElem?_toArray, List.getElem?_cons_succ, List.getElem?_cons_zero]; rfl
  case hw10 => rfl
  case hy10 => (intro w hSw; (try dsimp only at hSw); go_simp; (try with_reducible rfl))
  case hQ10 => exact fun _ _ _ h => h
  try simp only [Act.put, List.setIfInBounds_toArray, List.set_cons_zero, List.set_cons_succ]
  refine wpAnyH_take (i := 11) (oi := ?oi11) (v := ?vv11) ?hi11 (by kernel_rfl) (by kernel_rfl) (by kernel_rfl) ?hQ11 (Or.inl ⟨?hw11, ?hy11⟩) (by assumption) ?hh11
  case hi11 => simp only [List.getElem?_toArray, List.getElem?_cons_succ, List.getElem?_cons_zero]; rfl
  case hw11 => rfl
  case hy11 => (intro w hSw; (try dsimp only at hSw); go_simp; (try with_reducible rfl))
  case hQ11 => exact fun _ _ _ h => h
  try simp only [Act.put, List.setIfInBounds_toArray, List.set_cons_zero, List.set_cons_succ]
  refine wpAnyH_take (i := 12) (oi := ?oi12) (v := ?vv12) ?hi12 (by kernel_rfl) (by kernel_rfl) (by kernel_rfl) ?hQ12 (Or.inl ⟨?hw12, ?hy12⟩) (by assumption) ?hh12
  case hi12 => simp only [List.getElem?_toArray, List.getElem?_cons_succ, List.getElem?_cons_zero]; rfl
  case hw12 => rfl
  case hy12 => (intro w hSw; (try dsimp only at hSw); go_simp; (try with_reducible rfl))
  case hQ12 => exact fun _ _ _ h => h
  try simp only [Act.put, List.setIfInBounds_toArray, List.set_cons_zero, List.set_cons_succ]
  refine wpAnyH_take (i := 13) (oi := ?oi13) (v := ?vv13) ?hi13 (by kernel_rfl) (by kernel_rfl) (by kernel_rfl) ?hQ13 (Or.inl ⟨?hw13, ?hy13⟩) (by assumption) ?hh13
  case hi13 => simp only [List.getElem?_toArray, List.getElem?_cons_succ, List.getElem?_cons_zero]; rfl
  case hw13 => rfl
  case hy13 => (intro w hSw; (try dsimp only at hSw); go_simp; (try with_reducible rfl))
  case hQ13 => exact fun _ _ _ h => h
  try simp only [Act.put, List.setIfInBounds_toArray, List.set_cons_zero, List.set_cons_succ]
  refine wpAnyH_ready (rs := [14]) (by kernel_rfl) (by simp) ?_
  refine AllReadyH.cons (o := ?oi14) ?hi14 (fun K hK => ?hh14) AllReadyH.nil
  case hi14 => simp only [List.getElem?_toArray, List.getElem?_cons_succ, List.getElem?_cons_zero]; rfl
  go_simp
  go_at_call 146
  refine (HN1.out _).mono ?_
  rintro e w' ⟨rfl, hbb⟩
  go_wp2_with fail
  refine hK.out _ _ ?_ (fun hHeld2 => ?_)
  · (first | exact HFA.out _ (Below.drew (by assumption)) | (go_split_ands; exact HFA.out _ ((by assumption : Below (w.heap.size + 2) W0 _).trans (hbb.mono (by omega)))))
  clear hK K hHeld
  have hHeld := hHeld2
  clear hHeld2
  try simp only [Act.put, List.setIfInBounds_toArray, List.set_cons_zero, List.set_cons_succ]
  refine wpAnyH_take (i := 15) (oi := ?oi15) (v := ?vv15) ?hi15 (by kernel_rfl) (by kernel_rfl) (by kernel_rfl) ?hQ15 (Or.inl ⟨?hw15, ?hy15⟩) (by assumption) ?hh15
  case hi15 => simp only [List.getElem?_toArray, List.getElem?_cons_succ, List.getElem?_cons_zero]; rfl
  case hw15 => rfl
  case hy15 => (intro w hSw; (try dsimp only at hSw); go_simp; (try with_reducible rfl))
  case hQ15 => exact fun _ _ _ h => h
  try simp only [Act.put, List.setIfInBounds_toArray, List.set_cons_zero, List.set_cons_succ]
  refine wpAnyH_take (i := 16) (oi := ?oi16) (v := ?vv16) ?hi16 (by kernel_rfl) (by kernel_rfl) (by kernel_rfl) ?hQ16 (Or.inl ⟨?hw16, ?hy16⟩) (by assumption) ?hh16
  case hi16 => simp only [List.getElem?_toArray, List.getElem?_cons_succ, List.getElem?_cons_zero]; rfl
  case hw16 => rfl
  case hy16 => (intro w hSw; (try dsimp only at hSw); go_simp; (try with_reducible rfl))
  case hQ16 => exact fun _ _ _ h => h
  try simp only [Act.put, List.setIfInBounds_toArray, List.set_cons_zero, List.set_cons_succ]
  refine wpAnyH_take (i := 17) (oi := ?oi17) (v := ?vv17) ?hi17 (by kernel_rfl) (by kernel_rfl) (by kernel_rfl) ?hQ17 (Or.inl ⟨?hw17, ?hy17⟩) (by assumption) ?hh17
  case hi17 => simp only [List.getElem?_toArray, List.getElem?_cons_succ, List.getElem?_cons_zero]; rfl
  case hw17 => rfl
  case hy17 => (intro w hSw; (try dsimp only at hSw); go_simp; (try with_reducible rfl))
  case hQ17 => exact fun _ _ _ h => h
  try simp only [Act.put, List.setIfInBounds_toArray, List.set_cons_zero, List.set_cons_succ]
  refine wpAnyH_take (i := 18) (oi := ?oi18) (v := ?vv18) ?hi18 (by kernel_rfl) (by kernel_rfl) (by kernel_rfl) ?hQ18 (Or.inl ⟨?hw18, ?hy18⟩) (by assumption) ?hh18
  case hi18 => simp only [List.getElem?_toArray, List.getElem?_cons_succ, List.getElem?_cons_zero]; rfl
  case hw18 => rfl
  case hy18 => (intro w hSw; (try dsimp only at hSw); go_simp; (try with_reducible rfl))
  case hQ18 => exact fun _ _ _ h => h
  try simp only [Act.put, List.setIfInBounds_toArray, List.set_cons_zero, List.set_cons_succ]
  refine wpAnyH_take (i := 19) (oi := ?oi19) (v := ?vv19) ?hi19 (by kernel_rfl) (by kernel_rfl) (by kernel_rfl) ?hQ19 (Or.inl ⟨?hw19, ?hy19⟩) (by assumption) ?hh19
  case hi19 => simp only [List.getElem?_toArray, List.getElem?_cons_succ, List.getElem?_cons_zero]; rfl
  case hw19 => rfl
  case hy19 => (intro w hSw; (try dsimp only at hSw); go_simp; (try with_reducible rfl))
  case hQ19 => exact fun _ _ _ h => h
  try simp only [Act.put, List.setIfInBounds_toArray, List.set_cons_zero, List.set_cons_succ]
  refine wpAnyH_take (i := 20) (oi := ?oi20) (v := ?vv20) ?hi20 (by kernel_rfl) (by kernel_rfl) (by kernel_rfl) ?hQ20 (Or.inl ⟨?hw20, ?hy20⟩) (by assumption) ?hh20
  case hi20 => simp only [List.getElem?_toArray, List.getElem?_cons_succ, List.getElem?_cons_zero]; rfl
  case hw20 => rfl
  case hy20 => (intro w hSw; (try dsimp only at hSw); go_simp; (try with_reducible rfl))
  case hQ20 => exact fun _ _ _ h => h
  try simp only [Act.put, List.setIfInBounds_toArray, List.set_cons_zero, List.set_cons_succ]
  refine wpAnyH_take (i := 21) (oi := ?oi21) (v := ?vv21) ?hi21 (by kernel_rfl) (by kernel_rfl) (by kernel_rfl) ?hQ21 (Or.inl ⟨?hw21, ?hy21⟩) (by assumption) ?hh21
  case hi21 => simp only [List.getElem?_toArray, List.getElem?_cons_succ, List.getElem?_cons_zero]; rfl
  case hw21 => rfl
  case hy21 => (intro w hSw; (try dsimp only at hSw); go_simp; (try with_reducible rfl))
  case hQ21 => exact fun _ _ _ h => h
  try simp only [Act.put, List.setIfInBounds_toArray, List.set_cons_zero, List.set_cons_succ]
  refine wpAnyH_take (i := 22) (oi := ?oi22) (v := ?vv22) ?hi22 (by kernel_rfl) (by kernel_rfl) (by kernel_rfl) ?hQ22 (Or.inl ⟨?hw22, ?hy22⟩) (by assumption) ?hh22
  case hi22 => simp only [List.getElem?_toArray, List.getElem?_cons_succ, List.getElem?_cons_zero]; rfl
  case hw22 => rfl
  case hy22 => (intro w hSw; (try dsimp only at hSw); go_simp; (try with_reducible rfl))
  case hQ22 => exact fun _ _ _ h => h
  try simp only [Act.put, List.setIfInBounds_toArray, List.set_cons_zero, List.set_cons_succ]
  refine wpAnyH_ready (rs := [23]) (by kernel_rfl) (by simp) ?_
  refine AllReadyH.cons (o := ?oi23) ?hi23 (fun K hK => ?hh23) AllReadyH.nil
  case hi23 => simp only [List.getElem?_toArray, List.getElem?_cons_succ, List.getElem?_cons_zero]; rfl
  go_simp
  go_at_call 146
  refine (HN2.out _).mono ?_
  rintro e w' ⟨rfl, hbb⟩
  go_wp2_with fail
  refine hK.out _ _ ?_ (fun hHeld2 => ?_)
  · (first | exact HFA.out _ (Below.drew (by assumption)) | (go_split_ands; exact HFA.out _ ((by assumption : Below (w.heap.size + 2) W0 _).trans (hbb.mono (by omega)))))
  clear hK K hHeld
  have hHeld := hHeld2
  clear hHeld2
  try simp only [Act.put, List.setIfInBounds_toArray, List.set_cons_zero, List.set_cons_succ]
  refine wpAnyH_take (i := 24) (oi := ?oi24) (v := ?vv24) ?hi24 (by kernel_rfl) (by kernel_rfl) (by kernel_rfl) ?hQ24 (Or.inl ⟨?hw24, ?hy24⟩) (by assumption) ?hh24
  case hi24 => simp only [List.getElem?_toArray, List.getElem?_cons_succ, List.getElem?_cons_zero]; rfl
  case hw24 => rfl
  case hy24 => (intro w hSw; (try dsimp only at hSw); go_simp; (try with_reducible rfl))
  case hQ24 => exact fun _ _ _ h => h
  try simp only [Act.put, List.setIfInBounds_toArray, List.set_cons_zero, List.set_cons_succ]
  refine wpAnyH_take (i := 25) (oi := ?oi25) (v := ?vv25) ?hi25 (by kernel_rfl) (by kernel_rfl) (by kernel_rfl) ?hQ25 (Or.inl ⟨?hw25, ?hy25⟩) (by assumption) ?hh25
  case hi25 => simp only [List.getElem?_toArray, List.getElem?_cons_succ, List.getElem?_cons_zero]; rfl
  case hw25 => rfl
  case hy25 => (intro w hSw; (try dsimp only at hSw); go_simp; (try with_reducible rfl))
  case hQ25 => exact fun _ _ _ h => h
  try simp only [Act.put, List.setIfInBounds_toArray, List.set_cons_zero, List.set_cons_succ]
  refine wpAnyH_take (i := 26) (oi := ?oi26) (v := ?vv26) ?hi26 (by kernel_rfl) (by kernel_rfl) (by kernel_rfl) ?hQ26 (Or.inl ⟨?hw26, ?hy26⟩) (by assumption) ?hh26
  case hi26 => simp only [List.getElem?_toArray, List.getElem?_cons_succ, List.getElem?_cons_zero]; rfl
  case hw26 => rfl
  case hy26 => (intro w hSw; (try dsimp only at hSw); go_simp; (try with_reducible rfl))
  case hQ26 => exact fun _ _ _ h => h
  try simp only [Act.put, List.setIfInBounds_toArray, List.set_cons_zero, List.set_cons_succ]
  refine wpAnyH_take (i := 27) (oi := ?oi27) (v := ?vv27) ?hi27 (by kernel_rfl) (by kernel_rfl) (by kernel_rfl) ?hQ27 (Or.inl ⟨?hw27, ?hy27⟩) (by assumption) ?hh27
  case hi27 => simp only [List.getElem?_toArray, List.getElem?_cons_succ, List.getElem?_cons_zero]; rfl
  case hw27 => rfl
  case hy27 => (intro w hSw; (try dsimp only at hSw); go_simp; (try with_reducible rfl))
  case hQ27 => exact fun _ _ _ h => h
  try simp only [Act.put, List.setIfInBounds_toArray, List.set_cons_zero, List.set_cons_succ]
  refine wpAnyH_take (i := 28) (oi := ?oi28) (v := ?vv28) ?hi28 (by kernel_rfl) (by kernel_rfl) (by kernel_rfl) ?hQ28 (Or.inl ⟨?hw28, ?hy28⟩) (by assumption) ?hh28
  case hi28 => simp only [List.getElem?_toArray, List.getElem?_cons_succ, List.getElem?_cons_zero]; rfl
  case hw28 => rfl
  case hy28 => (intro w hSw; (try dsimp only at hSw); go_simp; (try with_reducible rfl))
  case hQ28 => exact fun _ _ _ h => h
  try simp only [Act.put, List.setIfInBounds_toArray, List.set_cons_zero, List.set_cons_succ]
  refine wpAnyH_take (i := 29) (oi := ?oi29) (v := ?vv29) ?hi29 (by kernel_rfl) (by kernel_rfl) (by kernel_rfl) ?hQ29 (Or.inl ⟨?hw29, ?hy29⟩) (by assumption) ?hh29
  case hi29 => simp only [List.getElem?_toArray, List.getElem?_cons_succ, List.getElem?_cons_zero]; rfl
  case hw29 => rfl
  case hy29 => (intro w hSw; (try dsimp only at hSw); go_simp; (try with_reducible rfl))
  case hQ29 => exact fun _ _ _ h => h
  try simp only [Act.put, List.setIfInBounds_toArray, List.set_cons_zero, List.set_cons_succ]
  refine wpAnyH_take (i := 30) (oi := ?oi30) (v := ?vv30) ?hi30 (by kernel_rfl) (by kernel_rfl) (by kernel_rfl) ?hQ30 (Or.inl ⟨?hw30, ?hy30⟩) (by assumption) ?hh30
  case hi30 => simp only [List.getElem?_toArray, List.getElem?_cons_succ, List.getElem?_cons_zero]; rfl
  case hw30 => rfl
  case hy30 => (intro w hSw; (try dsimp only at hSw); go_simp; (try with_reducible rfl))
  case hQ30 => exact fun _ _ _ h => h
  try simp only [Act.put, List.setIfInBounds_toArray, List.set_cons_zero, List.set_cons_succ]
  refine wpAnyH_take (i := 31) (oi := ?oi31) (v := ?vv31) ?hi31 (by kernel_rfl) (by kernel_rfl) (by kernel_rfl) ?hQ31 (Or.inl ⟨?hw31, ?hy31⟩) (by assumption) ?hh31
  case hi31 => simp only [List.getElem?_toArray, List.getElem?_cons_succ, List.getElem?_cons_zero]; rfl
  case hw31 => rfl
  case hy31 => (intro w hSw; (try dsimp only at hSw); go_simp; (try with_reducible rfl))
  case hQ31 => exact fun _ _ _ h => h
  try simp only [Act.put, List.setIfInBounds_toArray, List.set_cons_zero, List.set_cons_succ]
  refine wpAnyH_ready (rs := [32]) (by kernel_rfl) (by simp) ?_
  refine AllReadyH.cons (o := ?oi32) ?hi32 (fun K hK => ?hh32) AllReadyH.nil
  case hi32 => simp only [List.getElem?_toArray, List.getElem?_cons_succ, List.getElem?_cons_zero]; rfl
  go_simp
  go_at_call 146
  refine (HN3.out _).mono ?_
  rintro e w' ⟨rfl, hbb⟩
  go_wp2_with fail
  refine hK.out _ _ ?_ (fun hHeld2 => ?_)
  · (first | exact HFA.out _ (Below.drew (by assumption)) | (go_split_ands; exact HFA.out _ ((by assumption : Below (w.heap.size + 2) W0 _).trans (hbb.mono (by omega)))))
  clear hK K hHeld
  have hHeld := hHeld2
  clear hHeld2
  try simp only [Act.put, List.setIfInBounds_toArray, List.set_cons_zero, List.set_cons_succ]
  refine wpAnyH_take (i := 33) (oi := ?oi33) (v := ?vv33) ?hi33 (by kernel_rfl) (by kernel_rfl) (by kernel_rfl) ?hQ33 (Or.inl ⟨?hw33, ?hy33⟩) (by assumption) ?hh33
  case hi33 => simp only [List.getElem?_toArray, List.getElem?_cons_succ, List.getElem?_cons_zero]; rfl
  case hw33 => rfl
  case hy33 => (intro w hSw; (try dsimp only at hSw); go_simp; (try with_reducible rfl))
  case hQ33 => exact fun _ _ _ h => h
  try simp only [Act.put, List.setIfInBounds_toArray, List.set_cons_zero, List.set_cons_succ]
  refine wpAnyH_take (i := 34) (oi := ?oi34) (v := ?vv34) ?hi34 (by kernel_rfl) (by kernel_rfl) (by kernel_rfl) ?hQ34 (Or.inl ⟨?hw34, ?hy34⟩) (by assumption) ?hh34
  case hi34 => simp only [List.getElem?_toArray, List.getElem?_cons_succ, List.getElem?_cons_zero]; rfl
  case hw34 => rfl
  case hy34 => (intro w hSw; (try dsimp only at hSw); go_simp; (try with_reducible rfl))
  case hQ34 => exact fun _ _ _ h => h
  try simp only [Act.put, List.setIfInBounds_toArray, List.set_cons_zero, List.set_cons_succ]
  refine wpAnyH_done (by kernel_rfl) ?_ _
  go_split_ands
  go_wp2_with fail
  go_ret
  exact ⟨rfl, HB.out.trans (Below.mono (by assumption) (by omega))⟩


set_option maxRecDepth 100000 in
set_option maxHeartbeats 8000000 in
theorem order_27 (l : Lk) (hl : l.Ok) (A1 A2 A3 A4 A5 : Option Addr) (c1 c2 c3 c4 c5 : Nat) (params : Int) (gen : Bool) (at_ : Int) (i : Ord) (fa fb fc : UInt8) (hf : formF i.op = some (fa, fb, fc)) (hline : withinF i.line 0 2000 = true) (hna : namesF l fa i.a = true) (hnb : namesF l fb i.b = true) (hnc : namesF l fc i.c = true) (hbc : 0 ≤ i.b ∧ i.b ≤ l.regs ∧ 0 ≤ i.c ∧ i.c ≤ l.regs ∧ l.regs ≤ 60) (hop : i.op = 27) (w : World) :
    Calls Tryd.prog 121 #[.agg (lookOf l A1 A2 A3 A4 A5 c1 c2 c3 c4 c5 params gen), .int .i64 at_, .agg i.cells] w fun e w' => e = .returned (.bool (withinF (i.b + i.c) 0 (l.regs - 1))) ∧ Below w.heap.size w w' := by
  obtain ⟨op, a, b, c, line⟩ := i
  obtain ⟨nf, nc, nt, regs, ng, no⟩ := l
  have hl' := hl
  obtain ⟨k1, k2, k3, k4, k5, k6, k7⟩ := hl'
  unfold Ord.cells
  unfold lookOf
  simp only at hf hl hline hna hnb hnc hbc hop k1 k2 k3 k4 k5 k6 k7 ⊢
  have hs : formS op = ⟨#[fa, fb, fc]⟩ := by simp [formS, hf]
  have HF := Lib.hid (fun w => form_any op w)
  rw [hs] at HF
  obtain ⟨la, lb, lc⟩ := form_letters hf
  have HN1 := Lib.hid (fun w' => names_any ⟨nf, nc, nt, regs, ng, no⟩ hl A1 A2 A3 A4 A5 c1 c2 c3 c4 c5 params gen fa (by rcases la with h | h | h <;> simp [Letter, h]) a w')
  have HN2 := Lib.hid (fun w' => names_any ⟨nf, nc, nt, regs, ng, no⟩ hl A1 A2 A3 A4 A5 c1 c2 c3 c4 c5 params gen fb (by rcases lb with h | h | h | h | h | h | h | h | h <;> simp [Letter, h]) b w')
  have HN3 := Lib.hid (fun w' => names_any ⟨nf, nc, nt, regs, ng, no⟩ hl A1 A2 A3 A4 A5 c1 c2 c3 c4 c5 params gen fc (by rcases lc with h | h | h | h <;> simp [Letter, h]) c w')
  simp only at HN1 HN2 HN3
  rw [hna] at HN1
  rw [hnb] at HN2
  rw [hnc] at HN3
  have HL := Lib.hid (fun w' => within_below line 0 2000 _ hline w')
  obtain ⟨W0, hW0⟩ : ∃ W0, W0 = (w.alloc (.cells (lookCells (.slice A1 nf c1) (.slice A2 nc c2) (.slice A3 nt c3) params regs gen (.slice A4 ng c4) (.slice A5 no c5)) 187)).alloc (.cells #[.int .i64 op, .int .i64 a, .int .i64 b, .int .i64 c, .int .i64 line] 189) := ⟨_, rfl⟩
  have sz0 : W0.heap.size = w.heap.size + 2 := by rw [hW0]; simp
  have B0 : Below w.heap.size w W0 := by rw [hW0]; exact ((Below.refl _ _).alloc (Nat.le_refl _) _).alloc (by simp) _
  have fa_ : ∀ w', Below (w.heap.size + 2) W0 w' → w'.cell? ⟨w.heap.size, 0, none⟩ = some (.slice A1 nf c1) ∧ w'.cell? ⟨w.heap.size, 1, none⟩ = some (.slice A2 nc c2) ∧ w'.cell? ⟨w.heap.size, 2, none⟩ = some (.slice A3 nt c3) ∧ w'.cell? ⟨w.heap.size, 3, none⟩ = some (.int .i64 params) ∧ w'.cell? ⟨w.heap.size, 4, none⟩ = some (.int .i64 regs) ∧ w'.cell? ⟨w.heap.size, 5, none⟩ = some (.bool gen) ∧ w'.cell? ⟨w.heap.size, 6, none⟩ = some (.slice A4 ng c4) ∧ w'.cell? ⟨w.heap.size, 7, none⟩ = some (.slice A5 no c5) ∧
      w'.cell? ⟨w.heap.size + 1, 0, none⟩ = some (.int .i64 op) ∧ w'.cell? ⟨w.heap.size + 1, 1, none⟩ = some (.int .i64 a) ∧ w'.cell? ⟨w.heap.size + 1, 2, none⟩ = some (.int .i64 b) ∧ w'.cell? ⟨w.heap.size + 1, 3, none⟩ = some (.int .i64 c) ∧ w'.cell? ⟨w.heap.size + 1, 4, none⟩ = some (.int .i64 line) ∧
      w.heap.size + 1 < w'.heap.size ∧ Below (w.heap.size + 2) W0 w' := fun w' h' => by
    have e : ∀ i, w'.cell? ⟨w.heap.size, i, none⟩ = W0.cell? ⟨w.heap.size, i, none⟩ := fun i => h'.cell (p := ⟨w.heap.size, i, none⟩) (by simp)
    have e' : ∀ i, w'.cell? ⟨w.heap.size + 1, i, none⟩ = W0.cell? ⟨w.heap.size + 1, i, none⟩ := fun i => h'.cell (p := ⟨w.heap.size + 1, i, none⟩) (by simp)
    refine ⟨?_, ?_, ?_, ?_, ?_, ?_, ?_, ?_, ?_, ?_, ?_, ?_, ?_, by have := h'.size; omega, h'⟩ <;> (first | rw [e, hW0] | rw [e', hW0]) <;> simp [lookCells]
  have HFA := Lib.hid fa_
  have HB := Lib.hid B0
  have HW := Lib.hid hW0
  have HS := Lib.hid sz0
  clear fa_ B0 hW0 sz0 hf hs la lb lc hl
  obtain ⟨g1, g2, g3, g4, g5⟩ := hbc
  have n14 : (op == 14) = false := by rw [hop]; rfl
  have n19 : (op == 19) = false := by rw [hop]; rfl
  have n27 : (op == 27) = true := by rw [hop]; rfl
  clear hop
  have HRG := Lib.hid (fun w' => reg_any (.slice A1 nf c1) (.slice A2 nc c2) (.slice A3 nt c3) params regs gen (.slice A4 ng c4) (.slice A5 no c5) (b + c) w' ⟨by omega, k7⟩ k6)
  go_enter Tryd.func121, Tryd.ntmps121
  go_wp2_with fail
  refine (HF.out _).mono ?_
  rintro e w1 ⟨rfl, hb⟩
  have hb1 : Below (w.heap.size + 2) W0 w1 := by rw [HW.out]; simpa using hb
  obtain ⟨q0, q1, q2, q3, q4, q5, q6, q7, p0, p1, p2, p3, p4, szs, hb2⟩ := HFA.out _ hb1
  clear hb hb1
  go_wp2_with fail
  refine wp_region_held_drew (S := fun w' => w'.cell? ⟨w.heap.size, 0, none⟩ = some (.slice A1 nf c1) ∧ w'.cell? ⟨w.heap.size, 1, none⟩ = some (.slice A2 nc c2) ∧ w'.cell? ⟨w.heap.size, 2, none⟩ = some (.slice A3 nt c3) ∧ w'.cell? ⟨w.heap.size, 3, none⟩ = some (.int .i64 params) ∧ w'.cell? ⟨w.heap.size, 4, none⟩ = some (.int .i64 regs) ∧ w'.cell? ⟨w.heap.size, 5, none⟩ = some (.bool gen) ∧ w'.cell? ⟨w.heap.size, 6, none⟩ = some (.slice A4 ng c4) ∧ w'.cell? ⟨w.heap.size, 7, none⟩ = some (.slice A5 no c5) ∧
      w'.cell? ⟨w.heap.size + 1, 0, none⟩ = some (.int .i64 op) ∧ w'.cell? ⟨w.heap.size + 1, 1, none⟩ = some (.int .i64 a) ∧ w'.cell? ⟨w.heap.size + 1, 2, none⟩ = some (.int .i64 b) ∧ w'.cell? ⟨w.heap.size + 1, 3, none⟩ = some (.int .i64 c) ∧ w'.cell? ⟨w.heap.size + 1, 4, none⟩ = some (.int .i64 line) ∧
      w.heap.size + 1 < w'.heap.size ∧ Below (w.heap.size + 2) W0 w') (by kernel_rfl) (HFA.out _ (Below.drew (by assumption))) (fun hHeld => ?_)
  try dsimp only
  refine wpAnyH_take (i := 0) (oi := ?oi0) (v := ?vv0) ?hi0 (by kernel_rfl) (by kernel_rfl) (by kernel_rfl) ?hQ0 (Or.inl ⟨?hw0, ?hy0⟩) (by assumption) ?hh0
  case hi0 => simp only [List.getElem?_toArray, List.getElem?_cons_succ, List.getElem?_cons_zero]; rfl
  case hw0 => rfl
  case hy0 => (intro w hSw; (try dsimp only at hSw); go_simp; (try with_reducible rfl))
  case hQ0 => exact fun _ _ _ h => h
  try simp only [Act.put, List.setIfInBounds_toArray, List.set_cons_zero, List.set_cons_succ]
  refine wpAnyH_take (i := 1) (oi := ?oi1) (v := ?vv1) ?hi1 (by kernel_rfl) (by kernel_rfl) (by kernel_rfl) ?hQ1 (Or.inl ⟨?hw1, ?hy1⟩) (by assumption) ?hh1
  case hi1 => simp only [List.getElem?_toArray, List.getElem?_cons_succ, List.getElem?_cons_zero]; rfl
  case hw1 => rfl
  case hy1 => (intro w hSw; (try dsimp only at hSw); go_simp; (try with_reducible rfl))
  case hQ1 => exact fun _ _ _ h => h
  try simp only [Act.put, List.setIfInBounds_toArray, List.set_cons_zero, List.set_cons_succ]
  refine wpAnyH_take (i := 2) (oi := ?oi2) (v := ?vv2) ?hi2 (by kernel_rfl) (by kernel_rfl) (by kernel_rfl) ?hQ2 (Or.inl ⟨?hw2, ?hy2⟩) (by assumption) ?hh2
  case hi2 => simp only [List.getElem?_toArray, List.getElem?_cons_succ, List.getElem?_cons_zero]; rfl
  case hw2 => rfl
  case hy2 => (intro w hSw; (try dsimp only at hSw); go_simp; (try with_reducible rfl))
  case hQ2 => exact fun _ _ _ h => h
  try simp only [Act.put, List.setIfInBounds_toArray, List.set_cons_zero, List.set_cons_succ]
  refine wpAnyH_take (i := 3) (oi := ?oi3) (v := ?vv3) ?hi3 (by kernel_rfl) (by kernel_rfl) (by kernel_rfl) ?hQ3 (Or.inl ⟨?hw3, ?hy3⟩) (by assumption) ?hh3
  case hi3 => simp only [List.getElem?_toArray, List.getElem?_cons_succ, List.getElem?_cons_zero]; rfl
  case hw3 => rfl
  case hy3 => (intro w hSw; (try dsimp only at hSw); go_simp; (try with_reducible rfl))
  case hQ3 => exact fun _ _ _ h => h
  try simp only [Act.put, List.setIfInBounds_toArray, List.set_cons_zero, List.set_cons_succ]
  refine wpAnyH_take (i := 4) (oi := ?oi4) (v := ?vv4) ?hi4 (by kernel_rfl) (by kernel_rfl) (by kernel_rfl) ?hQ4 (Or.inl ⟨?hw4, ?hy4⟩) (by assumption) ?hh4
  case hi4 => simp only [List.getElem?_toArray, List.getElem?_cons_succ, List.getElem?_cons_zero]; rfl
  case hw4 => rfl
  case hy4 => (intro w hSw; (try dsimp only at hSw); go_simp; (try with_reducible rfl))
  case hQ4 => exact fun _ _ _ h => h
  try simp only [Act.put, List.setIfInBounds_toArray, List.set_cons_zero, List.set_cons_succ]
  refine wpAnyH_ready (rs := [5]) (by kernel_rfl) (by simp) ?_
  refine AllReadyH.cons (o := ?oi5) ?hi5 (fun K hK => ?hh5) AllReadyH.nil
  case hi5 => simp only [List.getElem?_toArray, List.getElem?_cons_succ, List.getElem?_cons_zero]; rfl
  go_simp
  go_at_call 145
  refine (HL.out _).mono ?_
  rintro e w' ⟨rfl, hbb⟩
  go_wp2_with fail
  refine hK.out _ _ ?_ (fun hHeld2 => ?_)
  · (first | exact HFA.out _ (Below.drew (by assumption)) | (go_split_ands; exact HFA.out _ ((by assumption : Below (w.heap.size + 2) W0 _).trans (hbb.mono (by omega)))))
  clear hK K hHeld
  have hHeld := hHeld2
  clear hHeld2
  try simp only [Act.put, List.setIfInBounds_toArray, List.set_cons_zero, List.set_cons_succ]
  refine wpAnyH_take (i := 6) (oi := ?oi6) (v := ?vv6) ?hi6 (by kernel_rfl) (by kernel_rfl) (by kernel_rfl) ?hQ6 (Or.inl ⟨?hw6, ?hy6⟩) (by assumption) ?hh6
  case hi6 => simp only [List.getElem?_toArray, List.getElem?_cons_succ, List.getElem?_cons_zero]; rfl
  case hw6 => rfl
  case hy6 => (intro w hSw; (try dsimp only at hSw); go_simp; (try with_reducible rfl))
  case hQ6 => exact fun _ _ _ h => h
  try simp only [Act.put, List.setIfInBounds_toArray, List.set_cons_zero, List.set_cons_succ]
  refine wpAnyH_take (i := 7) (oi := ?oi7) (v := ?vv7) ?hi7 (by kernel_rfl) (by kernel_rfl) (by kernel_rfl) ?hQ7 (Or.inl ⟨?hw7, ?hy7⟩) (by assumption) ?hh7
  case hi7 => simp only [List.getElem?_toArray, List.getElem?_cons_succ, List.getElem?_cons_zero]; rfl
  case hw7 => rfl
  case hy7 => (intro w hSw; (try dsimp only at hSw); go_simp; (try with_reducible rfl))
  case hQ7 => exact fun _ _ _ h => h
  try simp only [Act.put, List.setIfInBounds_toArray, List.set_cons_zero, List.set_cons_succ]
  refine wpAnyH_take (i := 8) (oi := ?oi8) (v := ?vv8) ?hi8 (by kernel_rfl) (by kernel_rfl) (by kernel_rfl) ?hQ8 (Or.inl ⟨?hw8, ?hy8⟩) (by assumption) ?hh8
  case hi8 => simp only [List.getElem?_toArray, List.getElem?_cons_succ, List.getElem?_cons_zero]; rfl
  case hw8 => rfl
  case hy8 => (intro w hSw; (try dsimp only at hSw); go_simp; (try with_reducible rfl))
  case hQ8 => exact fun _ _ _ h => h
  try simp only [Act.put, List.setIfInBounds_toArray, List.set_cons_zero, List.set_cons_succ]
  refine wpAnyH_take (i := 9) (oi := ?oi9) (v := ?vv9) ?hi9 (by kernel_rfl) (by kernel_rfl) (by kernel_rfl) ?hQ9 (Or.inl ⟨?hw9, ?hy9⟩) (by assumption) ?hh9
  case hi9 => simp only [List.getElem?_toArray, List.getElem?_cons_succ, List.getElem?_cons_zero]; rfl
  case hw9 => rfl
  case hy9 => (intro w hSw; (try dsimp only at hSw); go_simp; (try with_reducible rfl))
  case hQ9 => exact fun _ _ _ h => h
  try simp only [Act.put, List.setIfInBounds_toArray, List.set_cons_zero, List.set_cons_succ]
  refine wpAnyH_take (i := 10) (oi := ?oi10) (v := ?vv10) ?hi10 (by kernel_rfl) (by kernel_rfl) (by kernel_rfl) ?hQ10 (Or.inl ⟨?hw10, ?hy10⟩) (by assumption) ?hh10
  case hi10 => simp only [List.getElem?_toArray, List.getElem?_cons_succ, List.getElem?_cons_zero]; rfl
  case hw10 => rfl
  case hy10 => (intro w hSw; (try dsimp only at hSw); go_simp; (try with_reducible rfl))
  case hQ10 => exact fun _ _ _ h => h
  try simp only [Act.put, List.setIfInBounds_toArray, List.set_cons_zero, List.set_cons_succ]
  refine wpAnyH_take (i := 11) (oi := ?oi11) (v := ?vv11) ?hi11 (by kernel_rfl) (by kernel_rfl) (by kernel_rfl) ?hQ11 (Or.inl ⟨?hw11, ?hy11⟩) (by assumption) ?hh11
  case hi11 => simp only [List.getElem?_toArray, List.getElem?_cons_succ, List.getElem?_cons_zero]; rfl
  case hw11 => rfl
  case hy11 => (intro w hSw; (try dsimp only at hSw); go_simp; (try with_reducible rfl))
  case hQ11 => exact fun _ _ _ h => h
  try simp only [Act.put, List.setIfInBounds_toArray, List.set_cons_zero, List.set_cons_succ]
  refine wpAnyH_take (i := 12) (oi := ?oi12) (v := ?vv12) ?hi12 (by kernel_rfl) (by kernel_rfl) (by kernel_rfl) ?hQ12 (Or.inl ⟨?hw12, ?hy12⟩) (by assumption) ?hh12
  case hi12 => simp only [List.getElem?_toArray, List.getElem?_cons_succ, List.getElem?_cons_zero]; rfl
  case hw12 => rfl
  case hy12 => (intro w hSw; (try dsimp only at hSw); go_simp; (try with_reducible rfl))
  case hQ12 => exact fun _ _ _ h => h
  try simp only [Act.put, List.setIfInBounds_toArray, List.set_cons_zero, List.set_cons_succ]
  refine wpAnyH_take (i := 13) (oi := ?oi13) (v := ?vv13) ?hi13 (by kernel_rfl) (by kernel_rfl) (by kernel_rfl) ?hQ13 (Or.inl ⟨?hw13, ?hy13⟩) (by assumption) ?hh13
  case hi13 => simp only [List.getElem?_toArray, List.getElem?_cons_succ, List.getElem?_cons_zero]; rfl
  case hw13 => rfl
  case hy13 => (intro w hSw; (try dsimp only at hSw); go_simp; (try with_reducible rfl))
  case hQ13 => exact fun _ _ _ h => h
  try simp only [Act.put, List.setIfInBounds_toArray, List.set_cons_zero, List.set_cons_succ]
  refine wpAnyH_ready (rs := [14]) (by kernel_rfl) (by simp) ?_
  refine AllReadyH.cons (o := ?oi14) ?hi14 (fun K hK => ?hh14) AllReadyH.nil
  case hi14 => simp only [List.getElem?_toArray, List.getElem?_cons_succ, List.getElem?_cons_zero]; rfl
  go_simp
  go_at_call 146
  refine (HN1.out _).mono ?_
  rintro e w' ⟨rfl, hbb⟩
  go_wp2_with fail
  refine hK.out _ _ ?_ (fun hHeld2 => ?_)
  · (first | exact HFA.out _ (Below.drew (by assumption)) | (go_split_ands; exact HFA.out _ ((by assumption : Below (w.heap.size + 2) W0 _).trans (hbb.mono (by omega)))))
  clear hK K hHeld
  have hHeld := hHeld2
  clear hHeld2
  try simp only [Act.put, List.setIfInBounds_toArray, List.set_cons_zero, List.set_cons_succ]
  refine wpAnyH_take (i := 15) (oi := ?oi15) (v := ?vv15) ?hi15 (by kernel_rfl) (by kernel_rfl) (by kernel_rfl) ?hQ15 (Or.inl ⟨?hw15, ?hy15⟩) (by assumption) ?hh15
  case hi15 => simp only [List.getElem?_toArray, List.getElem?_cons_succ, List.getElem?_cons_zero]; rfl
  case hw15 => rfl
  case hy15 => (intro w hSw; (try dsimp only at hSw); go_simp; (try with_reducible rfl))
  case hQ15 => exact fun _ _ _ h => h
  try simp only [Act.put, List.setIfInBounds_toArray, List.set_cons_zero, List.set_cons_succ]
  refine wpAnyH_take (i := 16) (oi := ?oi16) (v := ?vv16) ?hi16 (by kernel_rfl) (by kernel_rfl) (by kernel_rfl) ?hQ16 (Or.inl ⟨?hw16, ?hy16⟩) (by assumption) ?hh16
  case hi16 => simp only [List.getElem?_toArray, List.getElem?_cons_succ, List.getElem?_cons_zero]; rfl
  case hw16 => rfl
  case hy16 => (intro w hSw; (try dsimp only at hSw); go_simp; (try with_reducible rfl))
  case hQ16 => exact fun _ _ _ h => h
  try simp only [Act.put, List.setIfInBounds_toArray, List.set_cons_zero, List.set_cons_succ]
  refine wpAnyH_take (i := 17) (oi := ?oi17) (v := ?vv17) ?hi17 (by kernel_rfl) (by kernel_rfl) (by kernel_rfl) ?hQ17 (Or.inl ⟨?hw17, ?hy17⟩) (by assumption) ?hh17
  case hi17 => simp only [List.getElem?_toArray, List.getElem?_cons_succ, List.getElem?_cons_zero]; rfl
  case hw17 => rfl
  case hy17 => (intro w hSw; (try dsimp only at hSw); go_simp; (try with_reducible rfl))
  case hQ17 => exact fun _ _ _ h => h
  try simp only [Act.put, List.setIfInBounds_toArray, List.set_cons_zero, List.set_cons_succ]
  refine wpAnyH_take (i := 18) (oi := ?oi18) (v := ?vv18) ?hi18 (by kernel_rfl) (by kernel_rfl) (by kernel_rfl) ?hQ18 (Or.inl ⟨?hw18, ?hy18⟩) (by assumption) ?hh18
  case hi18 => simp only [List.getElem?_toArray, List.getElem?_cons_succ, List.getElem?_cons_zero]; rfl
  case hw18 => rfl
  case hy18 => (intro w hSw; (try dsimp only at hSw); go_simp; (try with_reducible rfl))
  case hQ18 => exact fun _ _ _ h => h
  try simp only [Act.put, List.setIfInBounds_toArray, List.set_cons_zero, List.set_cons_succ]
  refine wpAnyH_take (i := 19) (oi := ?oi19) (v := ?vv19) ?hi19 (by kernel_rfl) (by kernel_rfl) (by kernel_rfl) ?hQ19 (Or.inl ⟨?hw19, ?hy19⟩) (by assumption) ?hh19
  case hi19 => simp only [List.getElem?_toArray, List.getElem?_cons_succ, List.getElem?_cons_zero]; rfl
  case hw19 => rfl
  case hy19 => (intro w hSw; (try dsimp only at hSw); go_simp; (try with_reducible rfl))
  case hQ19 => exact fun _ _ _ h => h
  try simp only [Act.put, List.setIfInBounds_toArray, List.set_cons_zero, List.set_cons_succ]
  refine wpAnyH_take (i := 20) (oi := ?oi20) (v := ?vv20) ?hi20 (by kernel_rfl) (by kernel_rfl) (by kernel_rfl) ?hQ20 (Or.inl ⟨?hw20, ?hy20⟩) (by assumption) ?hh20
  case hi20 => simp only [List.getElem?_toArray, List.getElem?_cons_succ, List.getElem?_cons_zero]; rfl
  case hw20 => rfl
  case hy20 => (intro w hSw; (try dsimp only at hSw); go_simp; (try with_reducible rfl))
  case hQ20 => exact fun _ _ _ h => h
  try simp only [Act.put, List.setIfInBounds_toArray, List.set_cons_zero, List.set_cons_succ]
  refine wpAnyH_take (i := 21) (oi := ?oi21) (v := ?vv21) ?hi21 (by kernel_rfl) (by kernel_rfl) (by kernel_rfl) ?hQ21 (Or.inl ⟨?hw21, ?hy21⟩) (by assumption) ?hh21
  case hi21 => simp only [List.getElem?_toArray, List.getElem?_cons_succ, List.getElem?_cons_zero]; rfl
  case hw21 => rfl
  case hy21 => (intro w hSw; (try dsimp only at hSw); go_simp; (try with_reducible rfl))
  case hQ21 => exact fun _ _ _ h => h
  try simp only [Act.put, List.setIfInBounds_toArray, List.set_cons_zero, List.set_cons_succ]
  refine wpAnyH_take (i := 22) (oi := ?oi22) (v := ?vv22) ?hi22 (by kernel_rfl) (by kernel_rfl) (by kernel_rfl) ?hQ22 (Or.inl ⟨?hw22, ?hy22⟩) (by assumption) ?hh22
  case hi22 => simp only [List.getElem?_toArray, List.getElem?_cons_succ, List.getElem?_cons_zero]; rfl
  case hw22 => rfl
  case hy22 => (intro w hSw; (try dsimp only at hSw); go_simp; (try with_reducible rfl))
  case hQ22 => exact fun _ _ _ h => h
  try simp only [Act.put, List.setIfInBounds_toArray, List.set_cons_zero, List.set_cons_succ]
  refine wpAnyH_ready (rs := [23]) (by kernel_rfl) (by simp) ?_
  refine AllReadyH.cons (o := ?oi23) ?hi23 (fun K hK => ?hh23) AllReadyH.nil
  case hi23 => simp only [List.getElem?_toArray, List.getElem?_cons_succ, List.getElem?_cons_zero]; rfl
  go_simp
  go_at_call 146
  refine (HN2.out _).mono ?_
  rintro e w' ⟨rfl, hbb⟩
  go_wp2_with fail
  refine hK.out _ _ ?_ (fun hHeld2 => ?_)
  · (first | exact HFA.out _ (Below.drew (by assumption)) | (go_split_ands; exact HFA.out _ ((by assumption : Below (w.heap.size + 2) W0 _).trans (hbb.mono (by omega)))))
  clear hK K hHeld
  have hHeld := hHeld2
  clear hHeld2
  try simp only [Act.put, List.setIfInBounds_toArray, List.set_cons_zero, List.set_cons_succ]
  refine wpAnyH_take (i := 24) (oi := ?oi24) (v := ?vv24) ?hi24 (by kernel_rfl) (by kernel_rfl) (by kernel_rfl) ?hQ24 (Or.inl ⟨?hw24, ?hy24⟩) (by assumption) ?hh24
  case hi24 => simp only [List.getElem?_toArray, List.getElem?_cons_succ, List.getElem?_cons_zero]; rfl
  case hw24 => rfl
  case hy24 => (intro w hSw; (try dsimp only at hSw); go_simp; (try with_reducible rfl))
  case hQ24 => exact fun _ _ _ h => h
  try simp only [Act.put, List.setIfInBounds_toArray, List.set_cons_zero, List.set_cons_succ]
  refine wpAnyH_take (i := 25) (oi := ?oi25) (v := ?vv25) ?hi25 (by kernel_rfl) (by kernel_rfl) (by kernel_rfl) ?hQ25 (Or.inl ⟨?hw25, ?hy25⟩) (by assumption) ?hh25
  case hi25 => simp only [List.getElem?_toArray, List.getElem?_cons_succ, List.getElem?_cons_zero]; rfl
  case hw25 => rfl
  case hy25 => (intro w hSw; (try dsimp only at hSw); go_simp; (try with_reducible rfl))
  case hQ25 => exact fun _ _ _ h => h
  try simp only [Act.put, List.setIfInBounds_toArray, List.set_cons_zero, List.set_cons_succ]
  refine wpAnyH_take (i := 26) (oi := ?oi26) (v := ?vv26) ?hi26 (by kernel_rfl) (by kernel_rfl) (by kernel_rfl) ?hQ26 (Or.inl ⟨?hw26, ?hy26⟩) (by assumption) ?hh26
  case hi26 => simp only [List.getElem?_toArray, List.getElem?_cons_succ, List.getElem?_cons_zero]; rfl
  case hw26 => rfl
  case hy26 => (intro w hSw; (try dsimp only at hSw); go_simp; (try with_reducible rfl))
  case hQ26 => exact fun _ _ _ h => h
  try simp only [Act.put, List.setIfInBounds_toArray, List.set_cons_zero, List.set_cons_succ]
  refine wpAnyH_take (i := 27) (oi := ?oi27) (v := ?vv27) ?hi27 (by kernel_rfl) (by kernel_rfl) (by kernel_rfl) ?hQ27 (Or.inl ⟨?hw27, ?hy27⟩) (by assumption) ?hh27
  case hi27 => simp only [List.getElem?_toArray, List.getElem?_cons_succ, List.getElem?_cons_zero]; rfl
  case hw27 => rfl
  case hy27 => (intro w hSw; (try dsimp only at hSw); go_simp; (try with_reducible rfl))
  case hQ27 => exact fun _ _ _ h => h
  try simp only [Act.put, List.setIfInBounds_toArray, List.set_cons_zero, List.set_cons_succ]
  refine wpAnyH_take (i := 28) (oi := ?oi28) (v := ?vv28) ?hi28 (by kernel_rfl) (by kernel_rfl) (by kernel_rfl) ?hQ28 (Or.inl ⟨?hw28, ?hy28⟩) (by assumption) ?hh28
  case hi28 => simp only [List.getElem?_toArray, List.getElem?_cons_succ, List.getElem?_cons_zero]; rfl
  case hw28 => rfl
  case hy28 => (intro w hSw; (try dsimp only at hSw); go_simp; (try with_reducible rfl))
  case hQ28 => exact fun _ _ _ h => h
  try simp only [Act.put, List.setIfInBounds_toArray, List.set_cons_zero, List.set_cons_succ]
  refine wpAnyH_take (i := 29) (oi := ?oi29) (v := ?vv29) ?hi29 (by kernel_rfl) (by kernel_rfl) (by kernel_rfl) ?hQ29 (Or.inl ⟨?hw29, ?hy29⟩) (by assumption) ?hh29
  case hi29 => simp only [List.getElem?_toArray, List.getElem?_cons_succ, List.getElem?_cons_zero]; rfl
  case hw29 => rfl
  case hy29 => (intro w hSw; (try dsimp only at hSw); go_simp; (try with_reducible rfl))
  case hQ29 => exact fun _ _ _ h => h
  try simp only [Act.put, List.setIfInBounds_toArray, List.set_cons_zero, List.set_cons_succ]
  refine wpAnyH_take (i := 30) (oi := ?oi30) (v := ?vv30) ?hi30 (by kernel_rfl) (by kernel_rfl) (by kernel_rfl) ?hQ30 (Or.inl ⟨?hw30, ?hy30⟩) (by assumption) ?hh30
  case hi30 => simp only [List.getElem?_toArray, List.getElem?_cons_succ, List.getElem?_cons_zero]; rfl
  case hw30 => rfl
  case hy30 => (intro w hSw; (try dsimp only at hSw); go_simp; (try with_reducible rfl))
  case hQ30 => exact fun _ _ _ h => h
  try simp only [Act.put, List.setIfInBounds_toArray, List.set_cons_zero, List.set_cons_succ]
  refine wpAnyH_take (i := 31) (oi := ?oi31) (v := ?vv31) ?hi31 (by kernel_rfl) (by kernel_rfl) (by kernel_rfl) ?hQ31 (Or.inl ⟨?hw31, ?hy31⟩) (by assumption) ?hh31
  case hi31 => simp only [List.getElem?_toArray, List.getElem?_cons_succ, List.getElem?_cons_zero]; rfl
  case hw31 => rfl
  case hy31 => (intro w hSw; (try dsimp only at hSw); go_simp; (try with_reducible rfl))
  case hQ31 => exact fun _ _ _ h => h
  try simp only [Act.put, List.setIfInBounds_toArray, List.set_cons_zero, List.set_cons_succ]
  refine wpAnyH_ready (rs := [32]) (by kernel_rfl) (by simp) ?_
  refine AllReadyH.cons (o := ?oi32) ?hi32 (fun K hK => ?hh32) AllReadyH.nil
  case hi32 => simp only [List.getElem?_toArray, List.getElem?_cons_succ, List.getElem?_cons_zero]; rfl
  go_simp
  go_at_call 146
  refine (HN3.out _).mono ?_
  rintro e w' ⟨rfl, hbb⟩
  go_wp2_with fail
  refine hK.out _ _ ?_ (fun hHeld2 => ?_)
  · (first | exact HFA.out _ (Below.drew (by assumption)) | (go_split_ands; exact HFA.out _ ((by assumption : Below (w.heap.size + 2) W0 _).trans (hbb.mono (by omega)))))
  clear hK K hHeld
  have hHeld := hHeld2
  clear hHeld2
  try simp only [Act.put, List.setIfInBounds_toArray, List.set_cons_zero, List.set_cons_succ]
  refine wpAnyH_take (i := 33) (oi := ?oi33) (v := ?vv33) ?hi33 (by kernel_rfl) (by kernel_rfl) (by kernel_rfl) ?hQ33 (Or.inl ⟨?hw33, ?hy33⟩) (by assumption) ?hh33
  case hi33 => simp only [List.getElem?_toArray, List.getElem?_cons_succ, List.getElem?_cons_zero]; rfl
  case hw33 => rfl
  case hy33 => (intro w hSw; (try dsimp only at hSw); go_simp; (try with_reducible rfl))
  case hQ33 => exact fun _ _ _ h => h
  try simp only [Act.put, List.setIfInBounds_toArray, List.set_cons_zero, List.set_cons_succ]
  refine wpAnyH_take (i := 34) (oi := ?oi34) (v := ?vv34) ?hi34 (by kernel_rfl) (by kernel_rfl) (by kernel_rfl) ?hQ34 (Or.inl ⟨?hw34, ?hy34⟩) (by assumption) ?hh34
  case hi34 => simp only [List.getElem?_toArray, List.getElem?_cons_succ, List.getElem?_cons_zero]; rfl
  case hw34 => rfl
  case hy34 => (intro w hSw; (try dsimp only at hSw); go_simp; (try with_reducible rfl))
  case hQ34 => exact fun _ _ _ h => h
  try simp only [Act.put, List.setIfInBounds_toArray, List.set_cons_zero, List.set_cons_succ]
  refine wpAnyH_done (by kernel_rfl) ?_ _
  go_split_ands
  go_wp2_with fail
  refine (HRG.out _).mono ?_
  rintro e w3 ⟨rfl, h3⟩
  have hQ : Below (w.heap.size + 2) W0 _ := (by assumption : Below (w.heap.size + 2) W0 _).trans (h3.mono (by omega))
  clear h3
  go_wp2_with fail
  go_ret
  exact ⟨rfl, HB.out.trans (Below.mono hQ (by omega))⟩


set_option maxRecDepth 100000 in
set_option maxHeartbeats 8000000 in
theorem order_else (l : Lk) (hl : l.Ok) (A1 A2 A3 A4 A5 : Option Addr) (c1 c2 c3 c4 c5 : Nat) (params : Int) (gen : Bool) (at_ : Int) (i : Ord) (fa fb fc : UInt8) (hf : formF i.op = some (fa, fb, fc)) (hline : withinF i.line 0 2000 = true) (hna : namesF l fa i.a = true) (hnb : namesF l fb i.b = true) (hnc : namesF l fc i.c = true) (hop : (i.op == 14) = false ∧ (i.op == 19) = false ∧ (i.op == 27) = false ∧ (i.op == 26) = false ∧ (i.op == 32) = false) (w : World) :
    Calls Tryd.prog 121 #[.agg (lookOf l A1 A2 A3 A4 A5 c1 c2 c3 c4 c5 params gen), .int .i64 at_, .agg i.cells] w fun e w' => e = .returned (.bool true) ∧ Below w.heap.size w w' := by
  obtain ⟨op, a, b, c, line⟩ := i
  obtain ⟨nf, nc, nt, regs, ng, no⟩ := l
  have hl' := hl
  obtain ⟨k1, k2, k3, k4, k5, k6, k7⟩ := hl'
  unfold Ord.cells
  unfold lookOf
  simp only at hf hl hline hna hnb hnc hop k1 k2 k3 k4 k5 k6 k7 ⊢
  have hs : formS op = ⟨#[fa, fb, fc]⟩ := by simp [formS, hf]
  have HF := Lib.hid (fun w => form_any op w)
  rw [hs] at HF
  obtain ⟨la, lb, lc⟩ := form_letters hf
  have HN1 := Lib.hid (fun w' => names_any ⟨nf, nc, nt, regs, ng, no⟩ hl A1 A2 A3 A4 A5 c1 c2 c3 c4 c5 params gen fa (by rcases la with h | h | h <;> simp [Letter, h]) a w')
  have HN2 := Lib.hid (fun w' => names_any ⟨nf, nc, nt, regs, ng, no⟩ hl A1 A2 A3 A4 A5 c1 c2 c3 c4 c5 params gen fb (by rcases lb with h | h | h | h | h | h | h | h | h <;> simp [Letter, h]) b w')
  have HN3 := Lib.hid (fun w' => names_any ⟨nf, nc, nt, regs, ng, no⟩ hl A1 A2 A3 A4 A5 c1 c2 c3 c4 c5 params gen fc (by rcases lc with h | h | h | h <;> simp [Letter, h]) c w')
  simp only at HN1 HN2 HN3
  rw [hna] at HN1
  rw [hnb] at HN2
  rw [hnc] at HN3
  have HL := Lib.hid (fun w' => within_below line 0 2000 _ hline w')
  obtain ⟨W0, hW0⟩ : ∃ W0, W0 = (w.alloc (.cells (lookCells (.slice A1 nf c1) (.slice A2 nc c2) (.slice A3 nt c3) params regs gen (.slice A4 ng c4) (.slice A5 no c5)) 187)).alloc (.cells #[.int .i64 op, .int .i64 a, .int .i64 b, .int .i64 c, .int .i64 line] 189) := ⟨_, rfl⟩
  have sz0 : W0.heap.size = w.heap.size + 2 := by rw [hW0]; simp
  have B0 : Below w.heap.size w W0 := by rw [hW0]; exact ((Below.refl _ _).alloc (Nat.le_refl _) _).alloc (by simp) _
  have fa_ : ∀ w', Below (w.heap.size + 2) W0 w' → w'.cell? ⟨w.heap.size, 0, none⟩ = some (.slice A1 nf c1) ∧ w'.cell? ⟨w.heap.size, 1, none⟩ = some (.slice A2 nc c2) ∧ w'.cell? ⟨w.heap.size, 2, none⟩ = some (.slice A3 nt c3) ∧ w'.cell? ⟨w.heap.size, 3, none⟩ = some (.int .i64 params) ∧ w'.cell? ⟨w.heap.size, 4, none⟩ = some (.int .i64 regs) ∧ w'.cell? ⟨w.heap.size, 5, none⟩ = some (.bool gen) ∧ w'.cell? ⟨w.heap.size, 6, none⟩ = some (.slice A4 ng c4) ∧ w'.cell? ⟨w.heap.size, 7, none⟩ = some (.slice A5 no c5) ∧
      w'.cell? ⟨w.heap.size + 1, 0, none⟩ = some (.int .i64 op) ∧ w'.cell? ⟨w.heap.size + 1, 1, none⟩ = some (.int .i64 a) ∧ w'.cell? ⟨w.heap.size + 1, 2, none⟩ = some (.int .i64 b) ∧ w'.cell? ⟨w.heap.size + 1, 3, none⟩ = some (.int .i64 c) ∧ w'.cell? ⟨w.heap.size + 1, 4, none⟩ = some (.int .i64 line) ∧
      w.heap.size + 1 < w'.heap.size ∧ Below (w.heap.size + 2) W0 w' := fun w' h' => by
    have e : ∀ i, w'.cell? ⟨w.heap.size, i, none⟩ = W0.cell? ⟨w.heap.size, i, none⟩ := fun i => h'.cell (p := ⟨w.heap.size, i, none⟩) (by simp)
    have e' : ∀ i, w'.cell? ⟨w.heap.size + 1, i, none⟩ = W0.cell? ⟨w.heap.size + 1, i, none⟩ := fun i => h'.cell (p := ⟨w.heap.size + 1, i, none⟩) (by simp)
    refine ⟨?_, ?_, ?_, ?_, ?_, ?_, ?_, ?_, ?_, ?_, ?_, ?_, ?_, by have := h'.size; omega, h'⟩ <;> (first | rw [e, hW0] | rw [e', hW0]) <;> simp [lookCells]
  have HFA := Lib.hid fa_
  have HB := Lib.hid B0
  have HW := Lib.hid hW0
  have HS := Lib.hid sz0
  clear fa_ B0 hW0 sz0 hf hs la lb lc hl
  obtain ⟨n1, n2, n3, n4, n5⟩ := hop
  go_enter Tryd.func121, Tryd.ntmps121
  go_wp2_with fail
  refine (HF.out _).mono ?_
  rintro e w1 ⟨rfl, hb⟩
  have hb1 : Below (w.heap.size + 2) W0 w1 := by rw [HW.out]; simpa using hb
  obtain ⟨q0, q1, q2, q3, q4, q5, q6, q7, p0, p1, p2, p3, p4, szs, hb2⟩ := HFA.out _ hb1
  clear hb hb1
  go_wp2_with fail
  refine wp_region_held_drew (S := fun w' => w'.cell? ⟨w.heap.size, 0, none⟩ = some (.slice A1 nf c1) ∧ w'.cell? ⟨w.heap.size, 1, none⟩ = some (.slice A2 nc c2) ∧ w'.cell? ⟨w.heap.size, 2, none⟩ = some (.slice A3 nt c3) ∧ w'.cell? ⟨w.heap.size, 3, none⟩ = some (.int .i64 params) ∧ w'.cell? ⟨w.heap.size, 4, none⟩ = some (.int .i64 regs) ∧ w'.cell? ⟨w.heap.size, 5, none⟩ = some (.bool gen) ∧ w'.cell? ⟨w.heap.size, 6, none⟩ = some (.slice A4 ng c4) ∧ w'.cell? ⟨w.heap.size, 7, none⟩ = some (.slice A5 no c5) ∧
      w'.cell? ⟨w.heap.size + 1, 0, none⟩ = some (.int .i64 op) ∧ w'.cell? ⟨w.heap.size + 1, 1, none⟩ = some (.int .i64 a) ∧ w'.cell? ⟨w.heap.size + 1, 2, none⟩ = some (.int .i64 b) ∧ w'.cell? ⟨w.heap.size + 1, 3, none⟩ = some (.int .i64 c) ∧ w'.cell? ⟨w.heap.size + 1, 4, none⟩ = some (.int .i64 line) ∧
      w.heap.size + 1 < w'.heap.size ∧ Below (w.heap.size + 2) W0 w') (by kernel_rfl) (HFA.out _ (Below.drew (by assumption))) (fun hHeld => ?_)
  try dsimp only
  refine wpAnyH_take (i := 0) (oi := ?oi0) (v := ?vv0) ?hi0 (by kernel_rfl) (by kernel_rfl) (by kernel_rfl) ?hQ0 (Or.inl ⟨?hw0, ?hy0⟩) (by assumption) ?hh0
  case hi0 => simp only [List.getElem?_toArray, List.getElem?_cons_succ, List.getElem?_cons_zero]; rfl
  case hw0 => rfl
  case hy0 => (intro w hSw; (try dsimp only at hSw); go_simp; (try with_reducible rfl))
  case hQ0 => exact fun _ _ _ h => h
  try simp only [Act.put, List.setIfInBounds_toArray, List.set_cons_zero, List.set_cons_succ]
  refine wpAnyH_take (i := 1) (oi := ?oi1) (v := ?vv1) ?hi1 (by kernel_rfl) (by kernel_rfl) (by kernel_rfl) ?hQ1 (Or.inl ⟨?hw1, ?hy1⟩) (by assumption) ?hh1
  case hi1 => simp only [List.getElem?_toArray, List.getElem?_cons_succ, List.getElem?_cons_zero]; rfl
  case hw1 => rfl
  case hy1 => (intro w hSw; (try dsimp only at hSw); go_simp; (try with_reducible rfl))
  case hQ1 => exact fun _ _ _ h => h
  try simp only [Act.put, List.setIfInBounds_toArray, List.set_cons_zero, List.set_cons_succ]
  refine wpAnyH_take (i := 2) (oi := ?oi2) (v := ?vv2) ?hi2 (by kernel_rfl) (by kernel_rfl) (by kernel_rfl) ?hQ2 (Or.inl ⟨?hw2, ?hy2⟩) (by assumption) ?hh2
  case hi2 => simp only [List.getElem?_toArray, List.getElem?_cons_succ, List.getElem?_cons_zero]; rfl
  case hw2 => rfl
  case hy2 => (intro w hSw; (try dsimp only at hSw); go_simp; (try with_reducible rfl))
  case hQ2 => exact fun _ _ _ h => h
  try simp only [Act.put, List.setIfInBounds_toArray, List.set_cons_zero, List.set_cons_succ]
  refine wpAnyH_take (i := 3) (oi := ?oi3) (v := ?vv3) ?hi3 (by kernel_rfl) (by kernel_rfl) (by kernel_rfl) ?hQ3 (Or.inl ⟨?hw3, ?hy3⟩) (by assumption) ?hh3
  case hi3 => simp only [List.getElem?_toArray, List.getElem?_cons_succ, List.getElem?_cons_zero]; rfl
  case hw3 => rfl
  case hy3 => (intro w hSw; (try dsimp only at hSw); go_simp; (try with_reducible rfl))
  case hQ3 => exact fun _ _ _ h => h
  try simp only [Act.put, List.setIfInBounds_toArray, List.set_cons_zero, List.set_cons_succ]
  refine wpAnyH_take (i := 4) (oi := ?oi4) (v := ?vv4) ?hi4 (by kernel_rfl) (by kernel_rfl) (by kernel_rfl) ?hQ4 (Or.inl ⟨?hw4, ?hy4⟩) (by assumption) ?hh4
  case hi4 => simp only [List.getElem?_toArray, List.getElem?_cons_succ, List.getElem?_cons_zero]; rfl
  case hw4 => rfl
  case hy4 => (intro w hSw; (try dsimp only at hSw); go_simp; (try with_reducible rfl))
  case hQ4 => exact fun _ _ _ h => h
  try simp only [Act.put, List.setIfInBounds_toArray, List.set_cons_zero, List.set_cons_succ]
  refine wpAnyH_ready (rs := [5]) (by kernel_rfl) (by simp) ?_
  refine AllReadyH.cons (o := ?oi5) ?hi5 (fun K hK => ?hh5) AllReadyH.nil
  case hi5 => simp only [List.getElem?_toArray, List.getElem?_cons_succ, List.getElem?_cons_zero]; rfl
  go_simp
  go_at_call 145
  refine (HL.out _).mono ?_
  rintro e w' ⟨rfl, hbb⟩
  go_wp2_with fail
  refine hK.out _ _ ?_ (fun hHeld2 => ?_)
  · (first | exact HFA.out _ (Below.drew (by assumption)) | (go_split_ands; exact HFA.out _ ((by assumption : Below (w.heap.size + 2) W0 _).trans (hbb.mono (by omega)))))
  clear hK K hHeld
  have hHeld := hHeld2
  clear hHeld2
  try simp only [Act.put, List.setIfInBounds_toArray, List.set_cons_zero, List.set_cons_succ]
  refine wpAnyH_take (i := 6) (oi := ?oi6) (v := ?vv6) ?hi6 (by kernel_rfl) (by kernel_rfl) (by kernel_rfl) ?hQ6 (Or.inl ⟨?hw6, ?hy6⟩) (by assumption) ?hh6
  case hi6 => simp only [List.getElem?_toArray, List.getElem?_cons_succ, List.getElem?_cons_zero]; rfl
  case hw6 => rfl
  case hy6 => (intro w hSw; (try dsimp only at hSw); go_simp; (try with_reducible rfl))
  case hQ6 => exact fun _ _ _ h => h
  try simp only [Act.put, List.setIfInBounds_toArray, List.set_cons_zero, List.set_cons_succ]
  refine wpAnyH_take (i := 7) (oi := ?oi7) (v := ?vv7) ?hi7 (by kernel_rfl) (by kernel_rfl) (by kernel_rfl) ?hQ7 (Or.inl ⟨?hw7, ?hy7⟩) (by assumption) ?hh7
  case hi7 => simp only [List.getElem?_toArray, List.getElem?_cons_succ, List.getElem?_cons_zero]; rfl
  case hw7 => rfl
  case hy7 => (intro w hSw; (try dsimp only at hSw); go_simp; (try with_reducible rfl))
  case hQ7 => exact fun _ _ _ h => h
  try simp only [Act.put, List.setIfInBounds_toArray, List.set_cons_zero, List.set_cons_succ]
  refine wpAnyH_take (i := 8) (oi := ?oi8) (v := ?vv8) ?hi8 (by kernel_rfl) (by kernel_rfl) (by kernel_rfl) ?hQ8 (Or.inl ⟨?hw8, ?hy8⟩) (by assumption) ?hh8
  case hi8 => simp only [List.getElem?_toArray, List.getElem?_cons_succ, List.getElem?_cons_zero]; rfl
  case hw8 => rfl
  case hy8 => (intro w hSw; (try dsimp only at hSw); go_simp; (try with_reducible rfl))
  case hQ8 => exact fun _ _ _ h => h
  try simp only [Act.put, List.setIfInBounds_toArray, List.set_cons_zero, List.set_cons_succ]
  refine wpAnyH_take (i := 9) (oi := ?oi9) (v := ?vv9) ?hi9 (by kernel_rfl) (by kernel_rfl) (by kernel_rfl) ?hQ9 (Or.inl ⟨?hw9, ?hy9⟩) (by assumption) ?hh9
  case hi9 => simp only [List.getElem?_toArray, List.getElem?_cons_succ, List.getElem?_cons_zero]; rfl
  case hw9 => rfl
  case hy9 => (intro w hSw; (try dsimp only at hSw); go_simp; (try with_reducible rfl))
  case hQ9 => exact fun _ _ _ h => h
  try simp only [Act.put, List.setIfInBounds_toArray, List.set_cons_zero, List.set_cons_succ]
  refine wpAnyH_take (i := 10) (oi := ?oi10) (v := ?vv10) ?hi10 (by kernel_rfl) (by kernel_rfl) (by kernel_rfl) ?hQ10 (Or.inl ⟨?hw10, ?hy10⟩) (by assumption) ?hh10
  case hi10 => simp only [List.getElem?_toArray, List.getElem?_cons_succ, List.getElem?_cons_zero]; rfl
  case hw10 => rfl
  case hy10 => (intro w hSw; (try dsimp only at hSw); go_simp; (try with_reducible rfl))
  case hQ10 => exact fun _ _ _ h => h
  try simp only [Act.put, List.setIfInBounds_toArray, List.set_cons_zero, List.set_cons_succ]
  refine wpAnyH_take (i := 11) (oi := ?oi11) (v := ?vv11) ?hi11 (by kernel_rfl) (by kernel_rfl) (by kernel_rfl) ?hQ11 (Or.inl ⟨?hw11, ?hy11⟩) (by assumption) ?hh11
  case hi11 => simp only [List.getElem?_toArray, List.getElem?_cons_succ, List.getElem?_cons_zero]; rfl
  case hw11 => rfl
  case hy11 => (intro w hSw; (try dsimp only at hSw); go_simp; (try with_reducible rfl))
  case hQ11 => exact fun _ _ _ h => h
  try simp only [Act.put, List.setIfInBounds_toArray, List.set_cons_zero, List.set_cons_succ]
  refine wpAnyH_take (i := 12) (oi := ?oi12) (v := ?vv12) ?hi12 (by kernel_rfl) (by kernel_rfl) (by kernel_rfl) ?hQ12 (Or.inl ⟨?hw12, ?hy12⟩) (by assumption) ?hh12
  case hi12 => simp only [List.getElem?_toArray, List.getElem?_cons_succ, List.getElem?_cons_zero]; rfl
  case hw12 => rfl
  case hy12 => (intro w hSw; (try dsimp only at hSw); go_simp; (try with_reducible rfl))
  case hQ12 => exact fun _ _ _ h => h
  try simp only [Act.put, List.setIfInBounds_toArray, List.set_cons_zero, List.set_cons_succ]
  refine wpAnyH_take (i := 13) (oi := ?oi13) (v := ?vv13) ?hi13 (by kernel_rfl) (by kernel_rfl) (by kernel_rfl) ?hQ13 (Or.inl ⟨?hw13, ?hy13⟩) (by assumption) ?hh13
  case hi13 => simp only [List.getElem?_toArray, List.getElem?_cons_succ, List.getElem?_cons_zero]; rfl
  case hw13 => rfl
  case hy13 => (intro w hSw; (try dsimp only at hSw); go_simp; (try with_reducible rfl))
  case hQ13 => exact fun _ _ _ h => h
  try simp only [Act.put, List.setIfInBounds_toArray, List.set_cons_zero, List.set_cons_succ]
  refine wpAnyH_ready (rs := [14]) (by kernel_rfl) (by simp) ?_
  refine AllReadyH.cons (o := ?oi14) ?hi14 (fun K hK => ?hh14) AllReadyH.nil
  case hi14 => simp only [List.getElem?_toArray, List.getElem?_cons_succ, List.getElem?_cons_zero]; rfl
  go_simp
  go_at_call 146
  refine (HN1.out _).mono ?_
  rintro e w' ⟨rfl, hbb⟩
  go_wp2_with fail
  refine hK.out _ _ ?_ (fun hHeld2 => ?_)
  · (first | exact HFA.out _ (Below.drew (by assumption)) | (go_split_ands; exact HFA.out _ ((by assumption : Below (w.heap.size + 2) W0 _).trans (hbb.mono (by omega)))))
  clear hK K hHeld
  have hHeld := hHeld2
  clear hHeld2
  try simp only [Act.put, List.setIfInBounds_toArray, List.set_cons_zero, List.set_cons_succ]
  refine wpAnyH_take (i := 15) (oi := ?oi15) (v := ?vv15) ?hi15 (by kernel_rfl) (by kernel_rfl) (by kernel_rfl) ?hQ15 (Or.inl ⟨?hw15, ?hy15⟩) (by assumption) ?hh15
  case hi15 => simp only [List.getElem?_toArray, List.getElem?_cons_succ, List.getElem?_cons_zero]; rfl
  case hw15 => rfl
  case hy15 => (intro w hSw; (try dsimp only at hSw); go_simp; (try with_reducible rfl))
  case hQ15 => exact fun _ _ _ h => h
  try simp only [Act.put, List.setIfInBounds_toArray, List.set_cons_zero, List.set_cons_succ]
  refine wpAnyH_take (i := 16) (oi := ?oi16) (v := ?vv16) ?hi16 (by kernel_rfl) (by kernel_rfl) (by kernel_rfl) ?hQ16 (Or.inl ⟨?hw16, ?hy16⟩) (by assumption) ?hh16
  case hi16 => simp only [List.getElem?_toArray, List.getElem?_cons_succ, List.getElem?_cons_zero]; rfl
  case hw16 => rfl
  case hy16 => (intro w hSw; (try dsimp only at hSw); go_simp; (try with_reducible rfl))
  case hQ16 => exact fun _ _ _ h => h
  try simp only [Act.put, List.setIfInBounds_toArray, List.set_cons_zero, List.set_cons_succ]
  refine wpAnyH_take (i := 17) (oi := ?oi17) (v := ?vv17) ?hi17 (by kernel_rfl) (by kernel_rfl) (by kernel_rfl) ?hQ17 (Or.inl ⟨?hw17, ?hy17⟩) (by assumption) ?hh17
  case hi17 => simp only [List.getElem?_toArray, List.getElem?_cons_succ, List.getElem?_cons_zero]; rfl
  case hw17 => rfl
  case hy17 => (intro w hSw; (try dsimp only at hSw); go_simp; (try with_reducible rfl))
  case hQ17 => exact fun _ _ _ h => h
  try simp only [Act.put, List.setIfInBounds_toArray, List.set_cons_zero, List.set_cons_succ]
  refine wpAnyH_take (i := 18) (oi := ?oi18) (v := ?vv18) ?hi18 (by kernel_rfl) (by kernel_rfl) (by kernel_rfl) ?hQ18 (Or.inl ⟨?hw18, ?hy18⟩) (by assumption) ?hh18
  case hi18 => simp only [List.getElem?_toArray, List.getElem?_cons_succ, List.getElem?_cons_zero]; rfl
  case hw18 => rfl
  case hy18 => (intro w hSw; (try dsimp only at hSw); go_simp; (try with_reducible rfl))
  case hQ18 => exact fun _ _ _ h => h
  try simp only [Act.put, List.setIfInBounds_toArray, List.set_cons_zero, List.set_cons_succ]
  refine wpAnyH_take (i := 19) (oi := ?oi19) (v := ?vv19) ?hi19 (by kernel_rfl) (by kernel_rfl) (by kernel_rfl) ?hQ19 (Or.inl ⟨?hw19, ?hy19⟩) (by assumption) ?hh19
  case hi19 => simp only [List.getElem?_toArray, List.getElem?_cons_succ, List.getElem?_cons_zero]; rfl
  case hw19 => rfl
  case hy19 => (intro w hSw; (try dsimp only at hSw); go_simp; (try with_reducible rfl))
  case hQ19 => exact fun _ _ _ h => h
  try simp only [Act.put, List.setIfInBounds_toArray, List.set_cons_zero, List.set_cons_succ]
  refine wpAnyH_take (i := 20) (oi := ?oi20) (v := ?vv20) ?hi20 (by kernel_rfl) (by kernel_rfl) (by kernel_rfl) ?hQ20 (Or.inl ⟨?hw20, ?hy20⟩) (by assumption) ?hh20
  case hi20 => simp only [List.getElem?_toArray, List.getElem?_cons_succ, List.getElem?_cons_zero]; rfl
  case hw20 => rfl
  case hy20 => (intro w hSw; (try dsimp only at hSw); go_simp; (try with_reducible rfl))
  case hQ20 => exact fun _ _ _ h => h
  try simp only [Act.put, List.setIfInBounds_toArray, List.set_cons_zero, List.set_cons_succ]
  refine wpAnyH_take (i := 21) (oi := ?oi21) (v := ?vv21) ?hi21 (by kernel_rfl) (by kernel_rfl) (by kernel_rfl) ?hQ21 (Or.inl ⟨?hw21, ?hy21⟩) (by assumption) ?hh21
  case hi21 => simp only [List.getElem?_toArray, List.getElem?_cons_succ, List.getElem?_cons_zero]; rfl
  case hw21 => rfl
  case hy21 => (intro w hSw; (try dsimp only at hSw); go_simp; (try with_reducible rfl))
  case hQ21 => exact fun _ _ _ h => h
  try simp only [Act.put, List.setIfInBounds_toArray, List.set_cons_zero, List.set_cons_succ]
  refine wpAnyH_take (i := 22) (oi := ?oi22) (v := ?vv22) ?hi22 (by kernel_rfl) (by kernel_rfl) (by kernel_rfl) ?hQ22 (Or.inl ⟨?hw22, ?hy22⟩) (by assumption) ?hh22
  case hi22 => simp only [List.getElem?_toArray, List.getElem?_cons_succ, List.getElem?_cons_zero]; rfl
  case hw22 => rfl
  case hy22 => (intro w hSw; (try dsimp only at hSw); go_simp; (try with_reducible rfl))
  case hQ22 => exact fun _ _ _ h => h
  try simp only [Act.put, List.setIfInBounds_toArray, List.set_cons_zero, List.set_cons_succ]
  refine wpAnyH_ready (rs := [23]) (by kernel_rfl) (by simp) ?_
  refine AllReadyH.cons (o := ?oi23) ?hi23 (fun K hK => ?hh23) AllReadyH.nil
  case hi23 => simp only [List.getElem?_toArray, List.getElem?_cons_succ, List.getElem?_cons_zero]; rfl
  go_simp
  go_at_call 146
  refine (HN2.out _).mono ?_
  rintro e w' ⟨rfl, hbb⟩
  go_wp2_with fail
  refine hK.out _ _ ?_ (fun hHeld2 => ?_)
  · (first | exact HFA.out _ (Below.drew (by assumption)) | (go_split_ands; exact HFA.out _ ((by assumption : Below (w.heap.size + 2) W0 _).trans (hbb.mono (by omega)))))
  clear hK K hHeld
  have hHeld := hHeld2
  clear hHeld2
  try simp only [Act.put, List.setIfInBounds_toArray, List.set_cons_zero, List.set_cons_succ]
  refine wpAnyH_take (i := 24) (oi := ?oi24) (v := ?vv24) ?hi24 (by kernel_rfl) (by kernel_rfl) (by kernel_rfl) ?hQ24 (Or.inl ⟨?hw24, ?hy24⟩) (by assumption) ?hh24
  case hi24 => simp only [List.getElem?_toArray, List.getElem?_cons_succ, List.getElem?_cons_zero]; rfl
  case hw24 => rfl
  case hy24 => (intro w hSw; (try dsimp only at hSw); go_simp; (try with_reducible rfl))
  case hQ24 => exact fun _ _ _ h => h
  try simp only [Act.put, List.setIfInBounds_toArray, List.set_cons_zero, List.set_cons_succ]
  refine wpAnyH_take (i := 25) (oi := ?oi25) (v := ?vv25) ?hi25 (by kernel_rfl) (by kernel_rfl) (by kernel_rfl) ?hQ25 (Or.inl ⟨?hw25, ?hy25⟩) (by assumption) ?hh25
  case hi25 => simp only [List.getElem?_toArray, List.getElem?_cons_succ, List.getElem?_cons_zero]; rfl
  case hw25 => rfl
  case hy25 => (intro w hSw; (try dsimp only at hSw); go_simp; (try with_reducible rfl))
  case hQ25 => exact fun _ _ _ h => h
  try simp only [Act.put, List.setIfInBounds_toArray, List.set_cons_zero, List.set_cons_succ]
  refine wpAnyH_take (i := 26) (oi := ?oi26) (v := ?vv26) ?hi26 (by kernel_rfl) (by kernel_rfl) (by kernel_rfl) ?hQ26 (Or.inl ⟨?hw26, ?hy26⟩) (by assumption) ?hh26
  case hi26 => simp only [List.getElem?_toArray, List.getElem?_cons_succ, List.getElem?_cons_zero]; rfl
  case hw26 => rfl
  case hy26 => (intro w hSw; (try dsimp only at hSw); go_simp; (try with_reducible rfl))
  case hQ26 => exact fun _ _ _ h => h
  try simp only [Act.put, List.setIfInBounds_toArray, List.set_cons_zero, List.set_cons_succ]
  refine wpAnyH_take (i := 27) (oi := ?oi27) (v := ?vv27) ?hi27 (by kernel_rfl) (by kernel_rfl) (by kernel_rfl) ?hQ27 (Or.inl ⟨?hw27, ?hy27⟩) (by assumption) ?hh27
  case hi27 => simp only [List.getElem?_toArray, List.getElem?_cons_succ, List.getElem?_cons_zero]; rfl
  case hw27 => rfl
  case hy27 => (intro w hSw; (try dsimp only at hSw); go_simp; (try with_reducible rfl))
  case hQ27 => exact fun _ _ _ h => h
  try simp only [Act.put, List.setIfInBounds_toArray, List.set_cons_zero, List.set_cons_succ]
  refine wpAnyH_take (i := 28) (oi := ?oi28) (v := ?vv28) ?hi28 (by kernel_rfl) (by kernel_rfl) (by kernel_rfl) ?hQ28 (Or.inl ⟨?hw28, ?hy28⟩) (by assumption) ?hh28
  case hi28 => simp only [List.getElem?_toArray, List.getElem?_cons_succ, List.getElem?_cons_zero]; rfl
  case hw28 => rfl
  case hy28 => (intro w hSw; (try dsimp only at hSw); go_simp; (try with_reducible rfl))
  case hQ28 => exact fun _ _ _ h => h
  try simp only [Act.put, List.setIfInBounds_toArray, List.set_cons_zero, List.set_cons_succ]
  refine wpAnyH_take (i := 29) (oi := ?oi29) (v := ?vv29) ?hi29 (by kernel_rfl) (by kernel_rfl) (by kernel_rfl) ?hQ29 (Or.inl ⟨?hw29, ?hy29⟩) (by assumption) ?hh29
  case hi29 => simp only [List.getElem?_toArray, List.getElem?_cons_succ, List.getElem?_cons_zero]; rfl
  case hw29 => rfl
  case hy29 => (intro w hSw; (try dsimp only at hSw); go_simp; (try with_reducible rfl))
  case hQ29 => exact fun _ _ _ h => h
  try simp only [Act.put, List.setIfInBounds_toArray, List.set_cons_zero, List.set_cons_succ]
  refine wpAnyH_take (i := 30) (oi := ?oi30) (v := ?vv30) ?hi30 (by kernel_rfl) (by kernel_rfl) (by kernel_rfl) ?hQ30 (Or.inl ⟨?hw30, ?hy30⟩) (by assumption) ?hh30
  case hi30 => simp only [List.getElem?_toArray, List.getElem?_cons_succ, List.getElem?_cons_zero]; rfl
  case hw30 => rfl
  case hy30 => (intro w hSw; (try dsimp only at hSw); go_simp; (try with_reducible rfl))
  case hQ30 => exact fun _ _ _ h => h
  try simp only [Act.put, List.setIfInBounds_toArray, List.set_cons_zero, List.set_cons_succ]
  refine wpAnyH_take (i := 31) (oi := ?oi31) (v := ?vv31) ?hi31 (by kernel_rfl) (by kernel_rfl) (by kernel_rfl) ?hQ31 (Or.inl ⟨?hw31, ?hy31⟩) (by assumption) ?hh31
  case hi31 => simp only [List.getElem?_toArray, List.getElem?_cons_succ, List.getElem?_cons_zero]; rfl
  case hw31 => rfl
  case hy31 => (intro w hSw; (try dsimp only at hSw); go_simp; (try with_reducible rfl))
  case hQ31 => exact fun _ _ _ h => h
  try simp only [Act.put, List.setIfInBounds_toArray, List.set_cons_zero, List.set_cons_succ]
  refine wpAnyH_ready (rs := [32]) (by kernel_rfl) (by simp) ?_
  refine AllReadyH.cons (o := ?oi32) ?hi32 (fun K hK => ?hh32) AllReadyH.nil
  case hi32 => simp only [List.getElem?_toArray, List.getElem?_cons_succ, List.getElem?_cons_zero]; rfl
  go_simp
  go_at_call 146
  refine (HN3.out _).mono ?_
  rintro e w' ⟨rfl, hbb⟩
  go_wp2_with fail
  refine hK.out _ _ ?_ (fun hHeld2 => ?_)
  · (first | exact HFA.out _ (Below.drew (by assumption)) | (go_split_ands; exact HFA.out _ ((by assumption : Below (w.heap.size + 2) W0 _).trans (hbb.mono (by omega)))))
  clear hK K hHeld
  have hHeld := hHeld2
  clear hHeld2
  try simp only [Act.put, List.setIfInBounds_toArray, List.set_cons_zero, List.set_cons_succ]
  refine wpAnyH_take (i := 33) (oi := ?oi33) (v := ?vv33) ?hi33 (by kernel_rfl) (by kernel_rfl) (by kernel_rfl) ?hQ33 (Or.inl ⟨?hw33, ?hy33⟩) (by assumption) ?hh33
  case hi33 => simp only [List.getElem?_toArray, List.getElem?_cons_succ, List.getElem?_cons_zero]; rfl
  case hw33 => rfl
  case hy33 => (intro w hSw; (try dsimp only at hSw); go_simp; (try with_reducible rfl))
  case hQ33 => exact fun _ _ _ h => h
  try simp only [Act.put, List.setIfInBounds_toArray, List.set_cons_zero, List.set_cons_succ]
  refine wpAnyH_take (i := 34) (oi := ?oi34) (v := ?vv34) ?hi34 (by kernel_rfl) (by kernel_rfl) (by kernel_rfl) ?hQ34 (Or.inl ⟨?hw34, ?hy34⟩) (by assumption) ?hh34
  case hi34 => simp only [List.getElem?_toArray, List.getElem?_cons_succ, List.getElem?_cons_zero]; rfl
  case hw34 => rfl
  case hy34 => (intro w hSw; (try dsimp only at hSw); go_simp; (try with_reducible rfl))
  case hQ34 => exact fun _ _ _ h => h
  try simp only [Act.put, List.setIfInBounds_toArray, List.set_cons_zero, List.set_cons_succ]
  refine wpAnyH_done (by kernel_rfl) ?_ _
  go_split_ands
  go_wp2_with fail
  go_ret
  exact ⟨rfl, HB.out.trans (Below.mono (by assumption) (by omega))⟩
end Go.Proofs.YtefkifdhjabdiaaDoor
namespace Go.Proofs.YtefkifdhjabdiaaDoor
set_option linter.unusedVariables false
set_option linter.unusedSimpArgs false
open Go.RowKit

set_option maxRecDepth 100000 in
set_option maxHeartbeats 8000000 in
theorem order_26 (w : World) (l : Lk) (hl : l.Ok) (A1 A2 A3 A4 A5 : Option Addr) (c1 c2 c3 c4 c5 : Nat) (params : Int) (gen : Bool) (at_ : Int) (i : Ord) (fa fb fc : UInt8) (hf : formF i.op = some (fa, fb, fc)) (hline : withinF i.line 0 2000 = true) (hna : namesF l fa i.a = true) (hnb : namesF l fb i.b = true) (hnc : namesF l fc i.c = true) (ok : Nat → Prop) (fns : List Fn) (hF : rdFn.C ok w A1 l.nf fns) (hb : 1 ≤ i.b ∧ i.b ≤ (l.nf : Int) - 1) (f : Fn) (hfe : fns[i.b.toNat]? = some f) (hop : i.op = 26):
    Calls Tryd.prog 121 #[.agg (lookOf l A1 A2 A3 A4 A5 c1 c2 c3 c4 c5 params gen), .int .i64 at_, .agg i.cells] w fun e w' => e = .returned (.bool (caughtF l.regs l.ng f.caught)) ∧ Below w.heap.size w w' := by
  obtain ⟨op, a, b, c, line⟩ := i
  obtain ⟨nf, nc, nt, regs, ng, no⟩ := l
  have hl' := hl
  obtain ⟨k1, k2, k3, k4, k5, k6, k7⟩ := hl'
  unfold Ord.cells
  unfold lookOf
  simp only at hf hl hline hna hnb hnc hF hb hfe hop k1 k2 k3 k4 k5 k6 k7 ⊢
  have hs : formS op = ⟨#[fa, fb, fc]⟩ := by simp [formS, hf]
  have HF := Lib.hid (fun w => form_any op w)
  rw [hs] at HF
  obtain ⟨la, lb, lc⟩ := form_letters hf
  have HN1 := Lib.hid (fun w' => names_any ⟨nf, nc, nt, regs, ng, no⟩ hl A1 A2 A3 A4 A5 c1 c2 c3 c4 c5 params gen fa (by rcases la with h | h | h <;> simp [Letter, h]) a w')
  have HN2 := Lib.hid (fun w' => names_any ⟨nf, nc, nt, regs, ng, no⟩ hl A1 A2 A3 A4 A5 c1 c2 c3 c4 c5 params gen fb (by rcases lb with h | h | h | h | h | h | h | h | h <;> simp [Letter, h]) b w')
  have HN3 := Lib.hid (fun w' => names_any ⟨nf, nc, nt, regs, ng, no⟩ hl A1 A2 A3 A4 A5 c1 c2 c3 c4 c5 params gen fc (by rcases lc with h | h | h | h <;> simp [Letter, h]) c w')
  simp only at HN1 HN2 HN3
  rw [hna] at HN1
  rw [hnb] at HN2
  rw [hnc] at HN3
  have HL := Lib.hid (fun w' => within_below line 0 2000 _ hline w')
  obtain ⟨W0, hW0⟩ : ∃ W0, W0 = (w.alloc (.cells (lookCells (.slice A1 nf c1) (.slice A2 nc c2) (.slice A3 nt c3) params regs gen (.slice A4 ng c4) (.slice A5 no c5)) 187)).alloc (.cells #[.int .i64 op, .int .i64 a, .int .i64 b, .int .i64 c, .int .i64 line] 189) := ⟨_, rfl⟩
  have sz0 : W0.heap.size = w.heap.size + 2 := by rw [hW0]; simp
  have B0 : Below w.heap.size w W0 := by rw [hW0]; exact ((Below.refl _ _).alloc (Nat.le_refl _) _).alloc (by simp) _
  have fa_ : ∀ w', Below (w.heap.size + 2) W0 w' → w'.cell? ⟨w.heap.size, 0, none⟩ = some (.slice A1 nf c1) ∧ w'.cell? ⟨w.heap.size, 1, none⟩ = some (.slice A2 nc c2) ∧ w'.cell? ⟨w.heap.size, 2, none⟩ = some (.slice A3 nt c3) ∧ w'.cell? ⟨w.heap.size, 3, none⟩ = some (.int .i64 params) ∧ w'.cell? ⟨w.heap.size, 4, none⟩ = some (.int .i64 regs) ∧ w'.cell? ⟨w.heap.size, 5, none⟩ = some (.bool gen) ∧ w'.cell? ⟨w.heap.size, 6, none⟩ = some (.slice A4 ng c4) ∧ w'.cell? ⟨w.heap.size, 7, none⟩ = some (.slice A5 no c5) ∧
      w'.cell? ⟨w.heap.size + 1, 0, none⟩ = some (.int .i64 op) ∧ w'.cell? ⟨w.heap.size + 1, 1, none⟩ = some (.int .i64 a) ∧ w'.cell? ⟨w.heap.size + 1, 2, none⟩ = some (.int .i64 b) ∧ w'.cell? ⟨w.heap.size + 1, 3, none⟩ = some (.int .i64 c) ∧ w'.cell? ⟨w.heap.size + 1, 4, none⟩ = some (.int .i64 line) ∧
      w.heap.size + 1 < w'.heap.size ∧ Below (w.heap.size + 2) W0 w' := fun w' h' => by
    have e : ∀ i, w'.cell? ⟨w.heap.size, i, none⟩ = W0.cell? ⟨w.heap.size, i, none⟩ := fun i => h'.cell (p := ⟨w.heap.size, i, none⟩) (by simp)
    have e' : ∀ i, w'.cell? ⟨w.heap.size + 1, i, none⟩ = W0.cell? ⟨w.heap.size + 1, i, none⟩ := fun i => h'.cell (p := ⟨w.heap.size + 1, i, none⟩) (by simp)
    refine ⟨?_, ?_, ?_, ?_, ?_, ?_, ?_, ?_, ?_, ?_, ?_, ?_, ?_, by have := h'.size; omega, h'⟩ <;> (first | rw [e, hW0] | rw [e', hW0]) <;> simp [lookCells]
  have HFA := Lib.hid fa_
  have HB := Lib.hid B0
  have HW := Lib.hid hW0
  have HS := Lib.hid sz0
  clear fa_ B0 hW0 sz0 hf hs la lb lc hl
  have n14 : (op == 14) = false := by rw [hop]; rfl
  have n19 : (op == 19) = false := by rw [hop]; rfl
  have n27 : (op == 27) = false := by rw [hop]; rfl
  have n26 : (op == 26) = true := by rw [hop]; rfl
  clear hop
  obtain ⟨b1, b2⟩ := hb
  have b3 : (0 : Int) ≤ b := by omega
  have b4 : b < (nf : Int) := by omega
  obtain ⟨ad, cs, rfl, _, had, ⟨v1, v2, rfl, hfi, hv1, hv2⟩, hc0, hcj⟩ := hF.elem b.toNat f hfe
  have hbb0 : (ad.add (b.toNat * 5)).block < w.heap.size := by rw [Rd.block_add]; exact had
  have HC := Lib.hid (fun w' => caught_any (fun k => ok k ∧ k < w.heap.size) w' f v1 v2)
  have HV := Lib.hid ((Rd.slice Rd.int).bound hv1)
  have x0 : w.cell? (ad.add (b.toNat * 5)) = some (.int .i64 f.params) := hc0 _ rfl
  have x1 : w.cell? ⟨(ad.add (b.toNat * 5)).block, (ad.add (b.toNat * 5)).off + 1, none⟩ = some (.int .i64 f.regs) := hcj 0 _ rfl
  have x2 : w.cell? ⟨(ad.add (b.toNat * 5)).block, (ad.add (b.toNat * 5)).off + 2, none⟩ = some (.bool f.gen) := hcj 1 _ rfl
  have x3 : w.cell? ⟨(ad.add (b.toNat * 5)).block, (ad.add (b.toNat * 5)).off + 3, none⟩ = some v1 := hcj 2 _ rfl
  have x4 : w.cell? ⟨(ad.add (b.toNat * 5)).block, (ad.add (b.toNat * 5)).off + 4, none⟩ = some v2 := hcj 3 _ rfl
  clear hc0 hcj
  have B2 : ∀ w', Below (w.heap.size + 2) W0 w' → Below w.heap.size w w' := fun w' h' => HB.out.trans (h'.mono (by omega))
  have fa2 : ∀ w', Below (w.heap.size + 2) W0 w' → (w'.cell? (ad.add (b.toNat * 5)) = some (.int .i64 f.params) ∧ w'.cell? ⟨(ad.add (b.toNat * 5)).block, (ad.add (b.toNat * 5)).off + 1, none⟩ = some (.int .i64 f.regs) ∧ w'.cell? ⟨(ad.add (b.toNat * 5)).block, (ad.add (b.toNat * 5)).off + 2, none⟩ = some (.bool f.gen) ∧ w'.cell? ⟨(ad.add (b.toNat * 5)).block, (ad.add (b.toNat * 5)).off + 3, none⟩ = some v1 ∧ w'.cell? ⟨(ad.add (b.toNat * 5)).block, (ad.add (b.toNat * 5)).off + 4, none⟩ = some v2) ∧ w'.cell? ⟨w.heap.size, 0, none⟩ = some (.slice (some ad) nf c1) ∧ w'.cell? ⟨w.heap.size, 1, none⟩ = some (.slice A2 nc c2) ∧ w'.cell? ⟨w.heap.size, 2, none⟩ = some (.slice A3 nt c3) ∧ w'.cell? ⟨w.heap.size, 3, none⟩ = some (.int .i64 params) ∧ w'.cell? ⟨w.heap.size, 4, none⟩ = some (.int .i64 regs) ∧ w'.cell? ⟨w.heap.size, 5, none⟩ = some (.bool gen) ∧ w'.cell? ⟨w.heap.size, 6, none⟩ = some (.slice A4 ng c4) ∧ w'.cell? ⟨w.heap.size, 7, none⟩ = some (.slice A5 no c5) ∧
      w'.cell? ⟨w.heap.size + 1, 0, none⟩ = some (.int .i64 op) ∧ w'.cell? ⟨w.heap.size + 1, 1, none⟩ = some (.int .i64 a) ∧ w'.cell? ⟨w.heap.size + 1, 2, none⟩ = some (.int .i64 b) ∧ w'.cell? ⟨w.heap.size + 1, 3, none⟩ = some (.int .i64 c) ∧ w'.cell? ⟨w.heap.size + 1, 4, none⟩ = some (.int .i64 line) ∧
      w.heap.size + 1 < w'.heap.size ∧ Below (w.heap.size + 2) W0 w' := fun w' h' => by
    refine ⟨⟨?_, ?_, ?_, ?_, ?_⟩, HFA.out w' h'⟩
    · exact ((B2 w' h').cell (by simpa using hbb0)).trans x0
    · exact ((B2 w' h').cell (by simpa using hbb0)).trans x1
    · exact ((B2 w' h').cell (by simpa using hbb0)).trans x2
    · exact ((B2 w' h').cell (by simpa using hbb0)).trans x3
    · exact ((B2 w' h').cell (by simpa using hbb0)).trans x4
  have HFA2 := Lib.hid fa2
  have HB2 := Lib.hid B2
  have HC2 : Hid (∀ w', Below (w.heap.size + 2) W0 w' → Calls Tryd.prog 148 #[.agg (lookCells (.slice (some ad) nf c1) (.slice A2 nc c2) (.slice A3 nt c3) params regs gen (.slice A4 ng c4) (.slice A5 no c5)), .agg #[.int .i64 f.params, .int .i64 f.regs, .bool f.gen, v1, v2]] w' fun e w'' => e = .returned (.bool (caughtF regs ng f.caught)) ∧ Below w'.heap.size w' w'') :=
    Lib.hid (fun w' h' => HC.out w' ((Rd.slice Rd.int).move (fun k hk _ => (HB2.out w' h').block k hk.2) HV.out) _ _ _ params regs gen A4 ng c4 _ k6 k7 k4)
  clear fa2 B2 x0 x1 x2 x3 x4 hbb0 hF hfe hv1 hv2 hfi HC HV
  go_enter Tryd.func121, Tryd.ntmps121
  go_wp2_with fail
  refine (HF.out _).mono ?_
  rintro e w1 ⟨rfl, hb⟩
  have hb1 : Below (w.heap.size + 2) W0 w1 := by rw [HW.out]; simpa using hb
  obtain ⟨q0, q1, q2, q3, q4, q5, q6, q7, p0, p1, p2, p3, p4, szs, hb2⟩ := HFA.out _ hb1
  clear hb hb1
  go_wp2_with fail
  refine wp_region_held_drew (S := fun w' => w'.cell? ⟨w.heap.size, 0, none⟩ = some (.slice (some ad) nf c1) ∧ w'.cell? ⟨w.heap.size, 1, none⟩ = some (.slice A2 nc c2) ∧ w'.cell? ⟨w.heap.size, 2, none⟩ = some (.slice A3 nt c3) ∧ w'.cell? ⟨w.heap.size, 3, none⟩ = some (.int .i64 params) ∧ w'.cell? ⟨w.heap.size, 4, none⟩ = some (.int .i64 regs) ∧ w'.cell? ⟨w.heap.size, 5, none⟩ = some (.bool gen) ∧ w'.cell? ⟨w.heap.size, 6, none⟩ = some (.slice A4 ng c4) ∧ w'.cell? ⟨w.heap.size, 7, none⟩ = some (.slice A5 no c5) ∧
      w'.cell? ⟨w.heap.size + 1, 0, none⟩ = some (.int .i64 op) ∧ w'.cell? ⟨w.heap.size + 1, 1, none⟩ = some (.int .i64 a) ∧ w'.cell? ⟨w.heap.size + 1, 2, none⟩ = some (.int .i64 b) ∧ w'.cell? ⟨w.heap.size + 1, 3, none⟩ = some (.int .i64 c) ∧ w'.cell? ⟨w.heap.size + 1, 4, none⟩ = some (.int .i64 line) ∧
      w.heap.size + 1 < w'.heap.size ∧ Below (w.heap.size + 2) W0 w') (by kernel_rfl) (HFA.out _ (Below.drew (by assumption))) (fun hHeld => ?_)
  try dsimp only
  refine wpAnyH_take (i := 0) (oi := ?oi0) (v := ?vv0) ?hi0 (by kernel_rfl) (by kernel_rfl) (by kernel_rfl) ?hQ0 (Or.inl ⟨?hw0, ?hy0⟩) (by assumption) ?hh0
  case hi0 => simp only [List.getElem?_toArray, List.getElem?_cons_succ, List.getElem?_cons_zero]; rfl
  case hw0 => rfl
  case hy0 => (intro w hSw; (try dsimp only at hSw); go_simp; (try with_reducible rfl))
  case hQ0 => exact fun _ _ _ h => h
  try simp only [Act.put, List.setIfInBounds_toArray, List.set_cons_zero, List.set_cons_succ]
  refine wpAnyH_take (i := 1) (oi := ?oi1) (v := ?vv1) ?hi1 (by kernel_rfl) (by kernel_rfl) (by kernel_rfl) ?hQ1 (Or.inl ⟨?hw1, ?hy1⟩) (by assumption) ?hh1
  case hi1 => simp only [List.getElem?_toArray, List.getElem?_cons_succ, List.getElem?_cons_zero]; rfl
  case hw1 => rfl
  case hy1 => (intro w hSw; (try dsimp only at hSw); go_simp; (try with_reducible rfl))
  case hQ1 => exact fun _ _ _ h => h
  try simp only [Act.put, List.setIfInBounds_toArray, List.set_cons_zero, List.set_cons_succ]
  refine wpAnyH_take (i := 2) (oi := ?oi2) (v := ?vv2) ?hi2 (by kernel_rfl) (by kernel_rfl) (by kernel_rfl) ?hQ2 (Or.inl ⟨?hw2, ?hy2⟩) (by assumption) ?hh2
  case hi2 => simp only [List.getElem?_toArray, List.getElem?_cons_succ, List.getElem?_cons_zero]; rfl
  case hw2 => rfl
  case hy2 => (intro w hSw; (try dsimp only at hSw); go_simp; (try with_reducible rfl))
  case hQ2 => exact fun _ _ _ h => h
  try simp only [Act.put, List.setIfInBounds_toArray, List.set_cons_zero, List.set_cons_succ]
  refine wpAnyH_take (i := 3) (oi := ?oi3) (v := ?vv3) ?hi3 (by kernel_rfl) (by kernel_rfl) (by kernel_rfl) ?hQ3 (Or.inl ⟨?hw3, ?hy3⟩) (by assumption) ?hh3
  case hi3 => simp only [List.getElem?_toArray, List.getElem?_cons_succ, List.getElem?_cons_zero]; rfl
  case hw3 => rfl
  case hy3 => (intro w hSw; (try dsimp only at hSw); go_simp; (try with_reducible rfl))
  case hQ3 => exact fun _ _ _ h => h
  try simp only [Act.put, List.setIfInBounds_toArray, List.set_cons_zero, List.set_cons_succ]
  refine wpAnyH_take (i := 4) (oi := ?oi4) (v := ?vv4) ?hi4 (by kernel_rfl) (by kernel_rfl) (by kernel_rfl) ?hQ4 (Or.inl ⟨?hw4, ?hy4⟩) (by assumption) ?hh4
  case hi4 => simp only [List.getElem?_toArray, List.getElem?_cons_succ, List.getElem?_cons_zero]; rfl
  case hw4 => rfl
  case hy4 => (intro w hSw; (try dsimp only at hSw); go_simp; (try with_reducible rfl))
  case hQ4 => exact fun _ _ _ h => h
  try simp only [Act.put, List.setIfInBounds_toArray, List.set_cons_zero, List.set_cons_succ]
  refine wpAnyH_ready (rs := [5]) (by kernel_rfl) (by simp) ?_
  refine AllReadyH.cons (o := ?oi5) ?hi5 (fun K hK => ?hh5) AllReadyH.nil
  case hi5 => simp only [List.getElem?_toArray, List.getElem?_cons_succ, List.getElem?_cons_zero]; rfl
  go_simp
  go_at_call 145
  refine (HL.out _).mono ?_
  rintro e w' ⟨rfl, hbb⟩
  go_wp2_with fail
  refine hK.out _ _ ?_ (fun hHeld2 => ?_)
  · (first | exact HFA.out _ (Below.drew (by assumption)) | (go_split_ands; exact HFA.out _ ((by assumption : Below (w.heap.size + 2) W0 _).trans (hbb.mono (by omega)))))
  clear hK K hHeld
  have hHeld := hHeld2
  clear hHeld2
  try simp only [Act.put, List.setIfInBounds_toArray, List.set_cons_zero, List.set_cons_succ]
  refine wpAnyH_take (i := 6) (oi := ?oi6) (v := ?vv6) ?hi6 (by kernel_rfl) (by kernel_rfl) (by kernel_rfl) ?hQ6 (Or.inl ⟨?hw6, ?hy6⟩) (by assumption) ?hh6
  case hi6 => simp only [List.getElem?_toArray, List.getElem?_cons_succ, List.getElem?_cons_zero]; rfl
  case hw6 => rfl
  case hy6 => (intro w hSw; (try dsimp only at hSw); go_simp; (try with_reducible rfl))
  case hQ6 => exact fun _ _ _ h => h
  try simp only [Act.put, List.setIfInBounds_toArray, List.set_cons_zero, List.set_cons_succ]
  refine wpAnyH_take (i := 7) (oi := ?oi7) (v := ?vv7) ?hi7 (by kernel_rfl) (by kernel_rfl) (by kernel_rfl) ?hQ7 (Or.inl ⟨?hw7, ?hy7⟩) (by assumption) ?hh7
  case hi7 => simp only [List.getElem?_toArray, List.getElem?_cons_succ, List.getElem?_cons_zero]; rfl
  case hw7 => rfl
  case hy7 => (intro w hSw; (try dsimp only at hSw); go_simp; (try with_reducible rfl))
  case hQ7 => exact fun _ _ _ h => h
  try simp only [Act.put, List.setIfInBounds_toArray, List.set_cons_zero, List.set_cons_succ]
  refine wpAnyH_take (i := 8) (oi := ?oi8) (v := ?vv8) ?hi8 (by kernel_rfl) (by kernel_rfl) (by kernel_rfl) ?hQ8 (Or.inl ⟨?hw8, ?hy8⟩) (by assumption) ?hh8
  case hi8 => simp only [List.getElem?_toArray, List.getElem?_cons_succ, List.getElem?_cons_zero]; rfl
  case hw8 => rfl
  case hy8 => (intro w hSw; (try dsimp only at hSw); go_simp; (try with_reducible rfl))
  case hQ8 => exact fun _ _ _ h => h
  try simp only [Act.put, List.setIfInBounds_toArray, List.set_cons_zero, List.set_cons_succ]
  refine wpAnyH_take (i := 9) (oi := ?oi9) (v := ?vv9) ?hi9 (by kernel_rfl) (by kernel_rfl) (by kernel_rfl) ?hQ9 (Or.inl ⟨?hw9, ?hy9⟩) (by assumption) ?hh9
  case hi9 => simp only [List.getElem?_toArray, List.getElem?_cons_succ, List.getElem?_cons_zero]; rfl
  case hw9 => rfl
  case hy9 => (intro w hSw; (try dsimp only at hSw); go_simp; (try with_reducible rfl))
  case hQ9 => exact fun _ _ _ h => h
  try simp only [Act.put, List.setIfInBounds_toArray, List.set_cons_zero, List.set_cons_succ]
  refine wpAnyH_take (i := 10) (oi := ?oi10) (v := ?vv10) ?hi10 (by kernel_rfl) (by kernel_rfl) (by kernel_rfl) ?hQ10 (Or.inl ⟨?hw10, ?hy10⟩) (by assumption) ?hh10
  case hi10 => simp only [List.getElem?_toArray, List.getElem?_cons_succ, List.getElem?_cons_zero]; rfl
  case hw10 => rfl
  case hy10 => (intro w hSw; (try dsimp only at hSw); go_simp; (try with_reducible rfl))
  case hQ10 => exact fun _ _ _ h => h
  try simp only [Act.put, List.setIfInBounds_toArray, List.set_cons_zero, List.set_cons_succ]
  refine wpAnyH_take (i := 11) (oi := ?oi11) (v := ?vv11) ?hi11 (by kernel_rfl) (by kernel_rfl) (by kernel_rfl) ?hQ11 (Or.inl ⟨?hw11, ?hy11⟩) (by assumption) ?hh11
  case hi11 => simp only [List.getElem?_toArray, List.getElem?_cons_succ, List.getElem?_cons_zero]; rfl
  case hw11 => rfl
  case hy11 => (intro w hSw; (try dsimp only at hSw); go_simp; (try with_reducible rfl))
  case hQ11 => exact fun _ _ _ h => h
  try simp only [Act.put, List.setIfInBounds_toArray, List.set_cons_zero, List.set_cons_succ]
  refine wpAnyH_take (i := 12) (oi := ?oi12) (v := ?vv12) ?hi12 (by kernel_rfl) (by kernel_rfl) (by kernel_rfl) ?hQ12 (Or.inl ⟨?hw12, ?hy12⟩) (by assumption) ?hh12
  case hi12 => simp only [List.getElem?_toArray, List.getElem?_cons_succ, List.getElem?_cons_zero]; rfl
  case hw12 => rfl
  case hy12 => (intro w hSw; (try dsimp only at hSw); go_simp; (try with_reducible rfl))
  case hQ12 => exact fun _ _ _ h => h
  try simp only [Act.put, List.setIfInBounds_toArray, List.set_cons_zero, List.set_cons_succ]
  refine wpAnyH_take (i := 13) (oi := ?oi13) (v := ?vv13) ?hi13 (by kernel_rfl) (by kernel_rfl) (by kernel_rfl) ?hQ13 (Or.inl ⟨?hw13, ?hy13⟩) (by assumption) ?hh13
  case hi13 => simp only [List.getElem?_toArray, List.getElem?_cons_succ, List.getElem?_cons_zero]; rfl
  case hw13 => rfl
  case hy13 => (intro w hSw; (try dsimp only at hSw); go_simp; (try with_reducible rfl))
  case hQ13 => exact fun _ _ _ h => h
  try simp only [Act.put, List.setIfInBounds_toArray, List.set_cons_zero, List.set_cons_succ]
  refine wpAnyH_ready (rs := [14]) (by kernel_rfl) (by simp) ?_
  refine AllReadyH.cons (o := ?oi14) ?hi14 (fun K hK => ?hh14) AllReadyH.nil
  case hi14 => simp only [List.getElem?_toArray, List.getElem?_cons_succ, List.getElem?_cons_zero]; rfl
  go_simp
  go_at_call 146
  refine (HN1.out _).mono ?_
  rintro e w' ⟨rfl, hbb⟩
  go_wp2_with fail
  refine hK.out _ _ ?_ (fun hHeld2 => ?_)
  · (first | exact HFA.out _ (Below.drew (by assumption)) | (go_split_ands; exact HFA.out _ ((by assumption : Below (w.heap.size + 2) W0 _).trans (hbb.mono (by omega)))))
  clear hK K hHeld
  have hHeld := hHeld2
  clear hHeld2
  try simp only [Act.put, List.setIfInBounds_toArray, List.set_cons_zero, List.set_cons_succ]
  refine wpAnyH_take (i := 15) (oi := ?oi15) (v := ?vv15) ?hi15 (by kernel_rfl) (by kernel_rfl) (by kernel_rfl) ?hQ15 (Or.inl ⟨?hw15, ?hy15⟩) (by assumption) ?hh15
  case hi15 => simp only [List.getElem?_toArray, List.getElem?_cons_succ, List.getElem?_cons_zero]; rfl
  case hw15 => rfl
  case hy15 => (intro w hSw; (try dsimp only at hSw); go_simp; (try with_reducible rfl))
  case hQ15 => exact fun _ _ _ h => h
  try simp only [Act.put, List.setIfInBounds_toArray, List.set_cons_zero, List.set_cons_succ]
  refine wpAnyH_take (i := 16) (oi := ?oi16) (v := ?vv16) ?hi16 (by kernel_rfl) (by kernel_rfl) (by kernel_rfl) ?hQ16 (Or.inl ⟨?hw16, ?hy16⟩) (by assumption) ?hh16
  case hi16 => simp only [List.getElem?_toArray, List.getElem?_cons_succ, List.getElem?_cons_zero]; rfl
  case hw16 => rfl
  case hy16 => (intro w hSw; (try dsimp only at hSw); go_simp; (try with_reducible rfl))
  case hQ16 => exact fun _ _ _ h => h
  try simp only [Act.put, List.setIfInBounds_toArray, List.set_cons_zero, List.set_cons_succ]
  refine wpAnyH_take (i := 17) (oi := ?oi17) (v := ?vv17) ?hi17 (by kernel_rfl) (by kernel_rfl) (by kernel_rfl) ?hQ17 (Or.inl ⟨?hw17, ?hy17⟩) (by assumption) ?hh17
  case hi17 => simp only [List.getElem?_toArray, List.getElem?_cons_succ, List.getElem?_cons_zero]; rfl
  case hw17 => rfl
  case hy17 => (intro w hSw; (try dsimp only at hSw); go_simp; (try with_reducible rfl))
  case hQ17 => exact fun _ _ _ h => h
  try simp only [Act.put, List.setIfInBounds_toArray, List.set_cons_zero, List.set_cons_succ]
  refine wpAnyH_take (i := 18) (oi := ?oi18) (v := ?vv18) ?hi18 (by kernel_rfl) (by kernel_rfl) (by kernel_rfl) ?hQ18 (Or.inl ⟨?hw18, ?hy18⟩) (by assumption) ?hh18
  case hi18 => simp only [List.getElem?_toArray, List.getElem?_cons_succ, List.getElem?_cons_zero]; rfl
  case hw18 => rfl
  case hy18 => (intro w hSw; (try dsimp only at hSw); go_simp; (try with_reducible rfl))
  case hQ18 => exact fun _ _ _ h => h
  try simp only [Act.put, List.setIfInBounds_toArray, List.set_cons_zero, List.set_cons_succ]
  refine wpAnyH_take (i := 19) (oi := ?oi19) (v := ?vv19) ?hi19 (by kernel_rfl) (by kernel_rfl) (by kernel_rfl) ?hQ19 (Or.inl ⟨?hw19, ?hy19⟩) (by assumption) ?hh19
  case hi19 => simp only [List.getElem?_toArray, List.getElem?_cons_succ, List.getElem?_cons_zero]; rfl
  case hw19 => rfl
  case hy19 => (intro w hSw; (try dsimp only at hSw); go_simp; (try with_reducible rfl))
  case hQ19 => exact fun _ _ _ h => h
  try simp only [Act.put, List.setIfInBounds_toArray, List.set_cons_zero, List.set_cons_succ]
  refine wpAnyH_take (i := 20) (oi := ?oi20) (v := ?vv20) ?hi20 (by kernel_rfl) (by kernel_rfl) (by kernel_rfl) ?hQ20 (Or.inl ⟨?hw20, ?hy20⟩) (by assumption) ?hh20
  case hi20 => simp only [List.getElem?_toArray, List.getElem?_cons_succ, List.getElem?_cons_zero]; rfl
  case hw20 => rfl
  case hy20 => (intro w hSw; (try dsimp only at hSw); go_simp; (try with_reducible rfl))
  case hQ20 => exact fun _ _ _ h => h
  try simp only [Act.put, List.setIfInBounds_toArray, List.set_cons_zero, List.set_cons_succ]
  refine wpAnyH_take (i := 21) (oi := ?oi21) (v := ?vv21) ?hi21 (by kernel_rfl) (by kernel_rfl) (by kernel_rfl) ?hQ21 (Or.inl ⟨?hw21, ?hy21⟩) (by assumption) ?hh21
  case hi21 => simp only [List.getElem?_toArray, List.getElem?_cons_succ, List.getElem?_cons_zero]; rfl
  case hw21 => rfl
  case hy21 => (intro w hSw; (try dsimp only at hSw); go_simp; (try with_reducible rfl))
  case hQ21 => exact fun _ _ _ h => h
  try simp only [Act.put, List.setIfInBounds_toArray, List.set_cons_zero, List.set_cons_succ]
  refine wpAnyH_take (i := 22) (oi := ?oi22) (v := ?vv22) ?hi22 (by kernel_rfl) (by kernel_rfl) (by kernel_rfl) ?hQ22 (Or.inl ⟨?hw22, ?hy22⟩) (by assumption) ?hh22
  case hi22 => simp only [List.getElem?_toArray, List.getElem?_cons_succ, List.getElem?_cons_zero]; rfl
  case hw22 => rfl
  case hy22 => (intro w hSw; (try dsimp only at hSw); go_simp; (try with_reducible rfl))
  case hQ22 => exact fun _ _ _ h => h
  try simp only [Act.put, List.setIfInBounds_toArray, List.set_cons_zero, List.set_cons_succ]
  refine wpAnyH_ready (rs := [23]) (by kernel_rfl) (by simp) ?_
  refine AllReadyH.cons (o := ?oi23) ?hi23 (fun K hK => ?hh23) AllReadyH.nil
  case hi23 => simp only [List.getElem?_toArray, List.getElem?_cons_succ, List.getElem?_cons_zero]; rfl
  go_simp
  go_at_call 146
  refine (HN2.out _).mono ?_
  rintro e w' ⟨rfl, hbb⟩
  go_wp2_with fail
  refine hK.out _ _ ?_ (fun hHeld2 => ?_)
  · (first | exact HFA.out _ (Below.drew (by assumption)) | (go_split_ands; exact HFA.out _ ((by assumption : Below (w.heap.size + 2) W0 _).trans (hbb.mono (by omega)))))
  clear hK K hHeld
  have hHeld := hHeld2
  clear hHeld2
  try simp only [Act.put, List.setIfInBounds_toArray, List.set_cons_zero, List.set_cons_succ]
  refine wpAnyH_take (i := 24) (oi := ?oi24) (v := ?vv24) ?hi24 (by kernel_rfl) (by kernel_rfl) (by kernel_rfl) ?hQ24 (Or.inl ⟨?hw24, ?hy24⟩) (by assumption) ?hh24
  case hi24 => simp only [List.getElem?_toArray, List.getElem?_cons_succ, List.getElem?_cons_zero]; rfl
  case hw24 => rfl
  case hy24 => (intro w hSw; (try dsimp only at hSw); go_simp; (try with_reducible rfl))
  case hQ24 => exact fun _ _ _ h => h
  try simp only [Act.put, List.setIfInBounds_toArray, List.set_cons_zero, List.set_cons_succ]
  refine wpAnyH_take (i := 25) (oi := ?oi25) (v := ?vv25) ?hi25 (by kernel_rfl) (by kernel_rfl) (by kernel_rfl) ?hQ25 (Or.inl ⟨?hw25, ?hy25⟩) (by assumption) ?hh25
  case hi25 => simp only [List.getElem?_toArray, List.getElem?_cons_succ, List.getElem?_cons_zero]; rfl
  case hw25 => rfl
  case hy25 => (intro w hSw; (try dsimp only at hSw); go_simp; (try with_reducible rfl))
  case hQ25 => exact fun _ _ _ h => h
  try simp only [Act.put, List.setIfInBounds_toArray, List.set_cons_zero, List.set_cons_succ]
  refine wpAnyH_take (i := 26) (oi := ?oi26) (v := ?vv26) ?hi26 (by kernel_rfl) (by kernel_rfl) (by kernel_rfl) ?hQ26 (Or.inl ⟨?hw26, ?hy26⟩) (by assumption) ?hh26
  case hi26 => simp only [List.getElem?_toArray, List.getElem?_cons_succ, List.getElem?_cons_zero]; rfl
  case hw26 => rfl
  case hy26 => (intro w hSw; (try dsimp only at hSw); go_simp; (try with_reducible rfl))
  case hQ26 => exact fun _ _ _ h => h
  try simp only [Act.put, List.setIfInBounds_toArray, List.set_cons_zero, List.set_cons_succ]
  refine wpAnyH_take (i := 27) (oi := ?oi27) (v := ?vv27) ?hi27 (by kernel_rfl) (by kernel_rfl) (by kernel_rfl) ?hQ27 (Or.inl ⟨?hw27, ?hy27⟩) (by assumption) ?hh27
  case hi27 => simp only [List.getElem?_toArray, List.getElem?_cons_succ, List.getElem?_cons_zero]; rfl
  case hw27 => rfl
  case hy27 => (intro w hSw; (try dsimp only at hSw); go_simp; (try with_reducible rfl))
  case hQ27 => exact fun _ _ _ h => h
  try simp only [Act.put, List.setIfInBounds_toArray, List.set_cons_zero, List.set_cons_succ]
  refine wpAnyH_take (i := 28) (oi := ?oi28) (v := ?vv28) ?hi28 (by kernel_rfl) (by kernel_rfl) (by kernel_rfl) ?hQ28 (Or.inl ⟨?hw28, ?hy28⟩) (by assumption) ?hh28
  case hi28 => simp only [List.getElem?_toArray, List.getElem?_cons_succ, List.getElem?_cons_zero]; rfl
  case hw28 => rfl
  case hy28 => (intro w hSw; (try dsimp only at hSw); go_simp; (try with_reducible rfl))
  case hQ28 => exact fun _ _ _ h => h
  try simp only [Act.put, List.setIfInBounds_toArray, List.set_cons_zero, List.set_cons_succ]
  refine wpAnyH_take (i := 29) (oi := ?oi29) (v := ?vv29) ?hi29 (by kernel_rfl) (by kernel_rfl) (by kernel_rfl) ?hQ29 (Or.inl ⟨?hw29, ?hy29⟩) (by assumption) ?hh29
  case hi29 => simp only [List.getElem?_toArray, List.getElem?_cons_succ, List.getElem?_cons_zero]; rfl
  case hw29 => rfl
  case hy29 => (intro w hSw; (try dsimp only at hSw); go_simp; (try with_reducible rfl))
  case hQ29 => exact fun _ _ _ h => h
  try simp only [Act.put, List.setIfInBounds_toArray, List.set_cons_zero, List.set_cons_succ]
  refine wpAnyH_take (i := 30) (oi := ?oi30) (v := ?vv30) ?hi30 (by kernel_rfl) (by kernel_rfl) (by kernel_rfl) ?hQ30 (Or.inl ⟨?hw30, ?hy30⟩) (by assumption) ?hh30
  case hi30 => simp only [List.getElem?_toArray, List.getElem?_cons_succ, List.getElem?_cons_zero]; rfl
  case hw30 => rfl
  case hy30 => (intro w hSw; (try dsimp only at hSw); go_simp; (try with_reducible rfl))
  case hQ30 => exact fun _ _ _ h => h
  try simp only [Act.put, List.setIfInBounds_toArray, List.set_cons_zero, List.set_cons_succ]
  refine wpAnyH_take (i := 31) (oi := ?oi31) (v := ?vv31) ?hi31 (by kernel_rfl) (by kernel_rfl) (by kernel_rfl) ?hQ31 (Or.inl ⟨?hw31, ?hy31⟩) (by assumption) ?hh31
  case hi31 => simp only [List.getElem?_toArray, List.getElem?_cons_succ, List.getElem?_cons_zero]; rfl
  case hw31 => rfl
  case hy31 => (intro w hSw; (try dsimp only at hSw); go_simp; (try with_reducible rfl))
  case hQ31 => exact fun _ _ _ h => h
  try simp only [Act.put, List.setIfInBounds_toArray, List.set_cons_zero, List.set_cons_succ]
  refine wpAnyH_ready (rs := [32]) (by kernel_rfl) (by simp) ?_
  refine AllReadyH.cons (o := ?oi32) ?hi32 (fun K hK => ?hh32) AllReadyH.nil
  case hi32 => simp only [List.getElem?_toArray, List.getElem?_cons_succ, List.getElem?_cons_zero]; rfl
  go_simp
  go_at_call 146
  refine (HN3.out _).mono ?_
  rintro e w' ⟨rfl, hbb⟩
  go_wp2_with fail
  refine hK.out _ _ ?_ (fun hHeld2 => ?_)
  · (first | exact HFA.out _ (Below.drew (by assumption)) | (go_split_ands; exact HFA.out _ ((by assumption : Below (w.heap.size + 2) W0 _).trans (hbb.mono (by omega)))))
  clear hK K hHeld
  have hHeld := hHeld2
  clear hHeld2
  try simp only [Act.put, List.setIfInBounds_toArray, List.set_cons_zero, List.set_cons_succ]
  refine wpAnyH_take (i := 33) (oi := ?oi33) (v := ?vv33) ?hi33 (by kernel_rfl) (by kernel_rfl) (by kernel_rfl) ?hQ33 (Or.inl ⟨?hw33, ?hy33⟩) (by assumption) ?hh33
  case hi33 => simp only [List.getElem?_toArray, List.getElem?_cons_succ, List.getElem?_cons_zero]; rfl
  case hw33 => rfl
  case hy33 => (intro w hSw; (try dsimp only at hSw); go_simp; (try with_reducible rfl))
  case hQ33 => exact fun _ _ _ h => h
  try simp only [Act.put, List.setIfInBounds_toArray, List.set_cons_zero, List.set_cons_succ]
  refine wpAnyH_take (i := 34) (oi := ?oi34) (v := ?vv34) ?hi34 (by kernel_rfl) (by kernel_rfl) (by kernel_rfl) ?hQ34 (Or.inl ⟨?hw34, ?hy34⟩) (by assumption) ?hh34
  case hi34 => simp only [List.getElem?_toArray, List.getElem?_cons_succ, List.getElem?_cons_zero]; rfl
  case hw34 => rfl
  case hy34 => (intro w hSw; (try dsimp only at hSw); go_simp; (try with_reducible rfl))
  case hQ34 => exact fun _ _ _ h => h
  try simp only [Act.put, List.setIfInBounds_toArray, List.set_cons_zero, List.set_cons_succ]
  refine wpAnyH_done (by kernel_rfl) ?_ _
  go_split_ands
  go_wp2_with fail
  go_region_held3 (fun w' => (w'.cell? (ad.add (b.toNat * 5)) = some (.int .i64 f.params) ∧ w'.cell? ⟨(ad.add (b.toNat * 5)).block, (ad.add (b.toNat * 5)).off + 1, none⟩ = some (.int .i64 f.regs) ∧ w'.cell? ⟨(ad.add (b.toNat * 5)).block, (ad.add (b.toNat * 5)).off + 2, none⟩ = some (.bool f.gen) ∧ w'.cell? ⟨(ad.add (b.toNat * 5)).block, (ad.add (b.toNat * 5)).off + 3, none⟩ = some v1 ∧ w'.cell? ⟨(ad.add (b.toNat * 5)).block, (ad.add (b.toNat * 5)).off + 4, none⟩ = some v2) ∧ w'.cell? ⟨w.heap.size, 0, none⟩ = some (.slice (some ad) nf c1) ∧ w'.cell? ⟨w.heap.size, 1, none⟩ = some (.slice A2 nc c2) ∧ w'.cell? ⟨w.heap.size, 2, none⟩ = some (.slice A3 nt c3) ∧ w'.cell? ⟨w.heap.size, 3, none⟩ = some (.int .i64 params) ∧ w'.cell? ⟨w.heap.size, 4, none⟩ = some (.int .i64 regs) ∧ w'.cell? ⟨w.heap.size, 5, none⟩ = some (.bool gen) ∧ w'.cell? ⟨w.heap.size, 6, none⟩ = some (.slice A4 ng c4) ∧ w'.cell? ⟨w.heap.size, 7, none⟩ = some (.slice A5 no c5) ∧
      w'.cell? ⟨w.heap.size + 1, 0, none⟩ = some (.int .i64 op) ∧ w'.cell? ⟨w.heap.size + 1, 1, none⟩ = some (.int .i64 a) ∧ w'.cell? ⟨w.heap.size + 1, 2, none⟩ = some (.int .i64 b) ∧ w'.cell? ⟨w.heap.size + 1, 3, none⟩ = some (.int .i64 c) ∧ w'.cell? ⟨w.heap.size + 1, 4, none⟩ = some (.int .i64 line) ∧
      w.heap.size + 1 < w'.heap.size ∧ Below (w.heap.size + 2) W0 w')
    (first | exact HFA2.out _ (Below.drew (by assumption)) | (go_split_ands; exact HFA2.out _ ((by assumption : Below (w.heap.size + 2) W0 _).trans (hbb.mono (by omega)))))
    (first | (go_at_call 148; (with_reducible refine (HC2.out _ ?_).mono ?_); (first | assumption | (go_split_ands; assumption)); rintro e w' ⟨rfl, hbb⟩))
  go_split_ands
  go_wp2_with fail
  go_ret
  exact ⟨rfl, HB2.out _ (by assumption)⟩
end Go.Proofs.YtefkifdhjabdiaaDoor
namespace Go.Proofs.YtefkifdhjabdiaaDoor
set_option linter.unusedVariables false
set_option linter.unusedSimpArgs false
open Go.RowKit

theorem within_iff {n lo hi : Int} : withinF n lo hi = true ↔ lo ≤ n ∧ n ≤ hi := by simp [withinF]
theorem form_19 {a b c : UInt8} (h : formF 19 = some (a, b, c)) : a = 114 ∧ b = 108 ∧ c = 110 := by
  have h : some _ = some (a, b, c) := h
  injection h with h
  injection h with ha h
  injection h with hb hc
  exact ⟨ha.symm, hb.symm, hc.symm⟩
theorem form_27 {a b c : UInt8} (h : formF 27 = some (a, b, c)) : a = 114 ∧ b = 99 ∧ c = 110 := by
  have h : some _ = some (a, b, c) := h
  injection h with h
  injection h with ha h
  injection h with hb hc
  exact ⟨ha.symm, hb.symm, hc.symm⟩
theorem form_26 {a b c : UInt8} (h : formF 26 = some (a, b, c)) : a = 114 ∧ b = 102 ∧ c = 45 := by
  have h : some _ = some (a, b, c) := h
  injection h with h
  injection h with ha h
  injection h with hb hc
  exact ⟨ha.symm, hb.symm, hc.symm⟩

theorem order_any (w : World) (ok : Nat → Prop) (l : Lk) (hl : l.Ok) (hr60 : l.regs ≤ 60) (A1 A2 A3 A4 A5 : Option Addr) (c1 c2 c3 c4 c5 : Nat) (params : Int) (gen : Bool) (at_ : Int) (i : Ord) (fns : List Fn) (hF : rdFn.C ok w A1 l.nf fns) :
    Calls Tryd.prog 121 #[.agg (lookOf l A1 A2 A3 A4 A5 c1 c2 c3 c4 c5 params gen), .int .i64 at_, .agg i.cells] w fun e w' => e = .returned (.bool (orderF fns l gen at_ i)) ∧ Below w.heap.size w w' := by
  cases hf : formF i.op with
  | none =>
    rw [show orderF fns l gen at_ i = false by simp [orderF, hf]]
    exact order_none l hl A1 A2 A3 A4 A5 c1 c2 c3 c4 c5 params gen at_ i hf w
  | some F =>
    obtain ⟨fa, fb, fc⟩ := F
    have hO : orderF fns l gen at_ i = (withinF i.line 0 2000 && namesF l fa i.a && namesF l fb i.b && namesF l fc i.c &&
      (if i.op = 14 then decide (i.a ≤ at_)
       else if i.op = 19 then decide (i.b + i.c ≤ l.regs)
       else if i.op = 27 then withinF (i.b + i.c) 0 (l.regs - 1)
       else if i.op = 26 then match fns[i.b.toNat]? with | some f => caughtF l.regs l.ng f.caught | none => true
       else if i.op = 32 then gen
       else true)) := by unfold orderF; rw [hf]; rfl
    rw [hO]
    clear hO
    cases hline : withinF i.line 0 2000 with
    | false => exact order_line l hl A1 A2 A3 A4 A5 c1 c2 c3 c4 c5 params gen at_ i fa fb fc hf hline w
    | true =>
    cases hna : namesF l fa i.a with
    | false => exact order_a l hl A1 A2 A3 A4 A5 c1 c2 c3 c4 c5 params gen at_ i fa fb fc hf hline hna w
    | true =>
    cases hnb : namesF l fb i.b with
    | false => exact order_b l hl A1 A2 A3 A4 A5 c1 c2 c3 c4 c5 params gen at_ i fa fb fc hf hline hna hnb w
    | true =>
    cases hnc : namesF l fc i.c with
    | false => exact order_c l hl A1 A2 A3 A4 A5 c1 c2 c3 c4 c5 params gen at_ i fa fb fc hf hline hna hnb hnc w
    | true =>
    simp only [Bool.true_and, Bool.and_self]
    by_cases o1 : i.op = 14
    · rw [if_pos o1]
      exact order_14 l hl A1 A2 A3 A4 A5 c1 c2 c3 c4 c5 params gen at_ i fa fb fc hf hline hna hnb hnc o1 w
    rw [if_neg o1]
    by_cases o2 : i.op = 19
    · rw [if_pos o2]
      refine order_19 l hl A1 A2 A3 A4 A5 c1 c2 c3 c4 c5 params gen at_ i fa fb fc hf hline hna hnb hnc ?_ o2 w
      rw [o2] at hf
      obtain ⟨rfl, rfl, rfl⟩ := form_19 hf
      have h1 : withinF i.b 0 l.regs = true := hnb
      have h2 : withinF i.c 0 l.regs = true := hnc
      rw [within_iff] at h1 h2
      exact ⟨h1.1, h1.2, h2.1, h2.2, hr60⟩
    rw [if_neg o2]
    by_cases o3 : i.op = 27
    · rw [if_pos o3]
      refine order_27 l hl A1 A2 A3 A4 A5 c1 c2 c3 c4 c5 params gen at_ i fa fb fc hf hline hna hnb hnc ?_ o3 w
      rw [o3] at hf
      obtain ⟨rfl, rfl, rfl⟩ := form_27 hf
      have h1 : withinF i.b 0 l.regs = true := hnb
      have h2 : withinF i.c 0 l.regs = true := hnc
      rw [within_iff] at h1 h2
      exact ⟨h1.1, h1.2, h2.1, h2.2, hr60⟩
    rw [if_neg o3]
    by_cases o4 : i.op = 26
    · rw [if_pos o4]
      have hf' := hf
      rw [o4] at hf'
      obtain ⟨rfl, rfl, rfl⟩ := form_26 hf'
      have h1 : withinF i.b 1 ((l.nf : Int) - 1) = true := hnb
      rw [within_iff] at h1
      have hlen := hF.1
      have hfe : fns[i.b.toNat]? = some (fns[i.b.toNat]'(by omega)) := List.getElem?_eq_getElem (by omega)
      rw [hfe]
      exact order_26 w l hl A1 A2 A3 A4 A5 c1 c2 c3 c4 c5 params gen at_ i _ _ _ hf hline hna hnb hnc ok fns hF h1 _ hfe o4
    rw [if_neg o4]
    by_cases o5 : i.op = 32
    · rw [if_pos o5]
      exact order_32 l hl A1 A2 A3 A4 A5 c1 c2 c3 c4 c5 params gen at_ i fa fb fc hf hline hna hnb hnc o5 w
    rw [if_neg o5]
    exact order_else l hl A1 A2 A3 A4 A5 c1 c2 c3 c4 c5 params gen at_ i fa fb fc hf hline hna hnb hnc ⟨by simpa using o1, by simpa using o2, by simpa using o3, by simpa using o4, by simpa using o5⟩ w
end Go.Proofs.YtefkifdhjabdiaaDoor
namespace Go.Proofs.YtefkifdhjabdiaaDoor
set_option linter.unusedVariables false
set_option linter.unusedSimpArgs false
open Go.RowKit

structure Tr where
  reg : Int
  at_ : Int
deriving DecidableEq
def Tr.cells (s : Tr) : Array Value := #[.int .i64 s.reg, .int .i64 s.at_]
def rdTry : Rd Tr where
  sz := 2
  K := fun _ _ x cs => cs = x.cells.toList ∧ Rd.IsInt x.reg ∧ Rd.IsInt x.at_
  len := fun h' => by rw [h'.1]; rfl
  one := fun h' u hu => by
    rw [h'.1] at hu
    simp [Tr.cells] at hu
    rcases hu with h | h <;> rw [h] <;> rfl
  move := fun _ h => h
  mono := fun _ h => h
  bound := fun h => h

set_option maxRecDepth 100000 in
set_option maxHeartbeats 4000000 in
/-- Whether two lists of tries are the same. -/
theorem eqTry_any (w : World) (A B : Option Addr) (n m c c' : Nat) (xs ys : List Tr) (ok ok' : Nat → Prop) (hA : rdTry.C ok w A n xs) (hB : rdTry.C ok' w B m ys) :
    Calls Tryd.prog 164 #[.slice A n c, .slice B m c'] w fun e w' => e = .returned (.bool (decide (xs = ys))) ∧ Below w.heap.size w w' := by
  have hn := hA.1
  have hm := hB.1
  have hn2 := hA.2.1
  by_cases hnm : n = m
  · subst hnm
    have hd : ((n : Int) != (n : Int)) = false := by simp
    have HA := Lib.hid hA
    have HB := Lib.hid hB
    have Hn := Lib.hid hn
    have Hm := Lib.hid hm
    clear hA hB hn hm
    go_enter Tryd.func164, Tryd.ntmps164
    go_wp2_with fail
    go_loopw [13] (fun I w1 => ∃ i : Nat, I = .int .i64 (i : Int) ∧ i ≤ n ∧ xs.take i = ys.take i ∧ Hid (Below w.heap.size w w1)) (fun i _ => n - (intOf i).toNat)
    case atStart => exact ⟨0, rfl, Nat.zero_le _, rfl, Lib.hid (Below.refl _ _)⟩
    case round =>
      obtain ⟨i, rfl, hi, ht, HW⟩ := hrel
      have HT := Lib.hid ht
      clear ht
      by_cases hlt : i < n
      · obtain ⟨x, hx⟩ : ∃ x, xs[i]? = some x := ⟨_, List.getElem?_eq_getElem (by rw [Hn.out]; exact hlt)⟩
        obtain ⟨y, hy⟩ : ∃ y, ys[i]? = some y := ⟨_, List.getElem?_eq_getElem (by rw [Hm.out]; exact hlt)⟩
        obtain ⟨ad, cs, rfl, _, _, ⟨rfl, _⟩, hc0, hcj⟩ := (HA.out.move (fun k _ hk => HW.out.block k hk)).elem i _ hx
        obtain ⟨bd, cs, rfl, _, _, ⟨rfl, _⟩, hd0, hdj⟩ := (HB.out.move (fun k _ hk => HW.out.block k hk)).elem i _ hy
        have e0 : wr.cell? (ad.add (i * 2)) = some (.int .i64 x.reg) := hc0 _ rfl
        have e1 : wr.cell? (bd.add (i * 2)) = some (.int .i64 y.reg) := hd0 _ rfl
        have e2 : wr.cell? ⟨(ad.add (i * 2)).block, (ad.add (i * 2)).off + 1, none⟩ = some (.int .i64 x.at_) := hcj 0 _ rfl
        have e3 : wr.cell? ⟨(bd.add (i * 2)).block, (bd.add (i * 2)).off + 1, none⟩ = some (.int .i64 y.at_) := hdj 0 _ rfl
        have hx' := Lib.hid hx
        have hy' := Lib.hid hy
        clear hc0 hd0 hcj hdj hx hy
        obtain ⟨xr, xa⟩ := x
        obtain ⟨yr, ya⟩ := y
        simp only at e0 e1 e2 e3
        have hlt1 : (i : Int) < (n : Int) := by omega
        have hlt2 : (0 : Int) ≤ (i : Int) := by omega
        by_cases hr : xr = yr
        · subst hr
          by_cases ha : xa = ya
          · subst ha
            go_wp2_with fail
            go_quiet (fail)
            go_wp2_with fail
            go_roundw
            case rel => exact ⟨i + 1, by go_num, hlt, by rw [List.take_add_one, List.take_add_one, HT.out, hx'.out, hy'.out], Lib.hid ⟨HW.out.os, HW.out.tape, HW.out.output, HW.out.size, HW.out.block⟩⟩
            case measure => simp [intOf]; omega
          · have hb : (xa != ya) = true := by simpa using ha
            have hb' : (xa == ya) = false := by simpa using ha
            go_wp2_with fail
            go_quiet (fail)
            go_wp2_with fail
            go_ret
            refine ⟨?_, ⟨HW.out.os, HW.out.tape, HW.out.output, HW.out.size, HW.out.block⟩⟩
            have : ¬ xs = ys := fun h => ha (by have := hx'.out; rw [h, hy'.out] at this; injection this with this; injection this with _ this; exact this.symm)
            simp [this]
        · have hb : (xr != yr) = true := by simpa using hr
          have hb' : (xr == yr) = false := by simpa using hr
          go_wp2_with fail
          go_quiet (fail)
          go_wp2_with fail
          go_ret
          refine ⟨?_, ⟨HW.out.os, HW.out.tape, HW.out.output, HW.out.size, HW.out.block⟩⟩
          have : ¬ xs = ys := fun h => hr (by have := hx'.out; rw [h, hy'.out] at this; injection this with this; injection this with this _; exact this.symm)
          simp [this]
      · go_wp2_with fail
        go_ret
        refine ⟨?_, HW.out⟩
        have h1 := HT.out
        rw [List.take_of_length_le (by rw [Hn.out]; omega), List.take_of_length_le (by rw [Hm.out]; omega)] at h1
        simp [h1]
  · have hb : ((n : Int) != (m : Int)) = true := by simp; omega
    have hne : decide (xs = ys) = false := by
      simp only [decide_eq_false_iff_not]
      intro h; rw [h] at hn; omega
    have Hne := Lib.hid hne
    clear hne hn hm hA hB
    rw [Hne.out]
    go_enter Tryd.func164, Tryd.ntmps164
    go_wp2_with fail
    go_ret
    exact ⟨rfl, Below.refl _ _⟩
end Go.Proofs.YtefkifdhjabdiaaDoor
namespace Go.Proofs.YtefkifdhjabdiaaDoor
set_option linter.unusedVariables false
set_option linter.unusedSimpArgs false
open Go.RowKit

theorem run_eql_some_nil {P : Program} (w : World) (t e : TypeId) (a : Addr) (n c : Nat) (h : P.underlying t = some (.slice e)) : (binOp .eql t (.slice (some a) n c) (.slice none 0 0)).run P w = .ok (.bool false) w := by
  simp only [binOp]
  simp [Op.equal, Op.maxDepth, Lib.run_equalIn_slice_nil w 9999 t e (some a) n c 0 0 h]

theorem run_eql_nil_nil {P : Program} (w : World) (t e : TypeId) (h : P.underlying t = some (.slice e)) : (binOp .eql t (.slice none 0 0) (.slice none 0 0)).run P w = .ok (.bool true) w := by
  simp only [binOp]
  simp [Op.equal, Op.maxDepth, Lib.run_equalIn_slice_nil w 9999 t e none 0 0 0 0 h]
theorem infoTry : (Tryd.prog.info? 226).map (fun i => (i.zero, i.size, i.bytes)) = some (some (Value.agg #[.int .i64 0, .int .i64 0]), 2, 16) := by kernel_rfl
/-- A slice just laid, with no room. -/
theorem Own.laid {α : Type} (d : Rd α) (e : TypeId) (ok : Nat → Prop) (w : World) (base : Nat) (hb : base ≤ w.heap.size) : Own d e ok (w.alloc (.cells #[] e)) base (.slice (some ⟨w.heap.size, 0, none⟩) 0 0) [] :=
  ⟨[], ⟨by simp, .inr ⟨w.heap.size, 0, #[], rfl, hb, heap_alloc_new _ _, Nat.le_refl _, by simp [maxLen], by simp, by simp⟩⟩, fun i x h => by simp at h⟩
/-- Of what leads nowhere: whatever may be read. -/
theorem Own.any {e : TypeId} {ok ok' : Nat → Prop} {w : World} {base : Nat} {v : Value} {xs : List Tr} (h : Own rdTry e ok w base v xs) : Own rdTry e ok' w base v xs := by
  obtain ⟨c, h1, h2⟩ := h.ex
  exact ⟨c, h1, fun i x hi => h2 i x hi⟩

set_option maxRecDepth 100000 in
set_option maxHeartbeats 4000000 in
theorem cloneTry_any (ok : Nat → Prop) (w : World) (v : Value) (xs : List Tr) (h : SlK rdTry ok w xs v) (hl : xs.length ≤ 1000) :
    Calls Tryd.prog 165 #[v] w fun e w' => ∃ v1, e = .returned v1 ∧ Below w.heap.size w w' ∧ Own rdTry 226 (fun _ => False) w' w.heap.size v1 xs := by
  obtain ⟨A, c, hv, h1, h2, h3, hC⟩ := h
  injection hv with hv
  subst hv
  cases A with
  | none =>
    have hc : c = 0 := h3 rfl
    subst hc
    have hx : xs = [] := List.eq_nil_of_length_eq_zero (by omega)
    subst hx
    clear hC h1 h2 h3 hl
    have hq : ([] : List Tr).length = 0 := rfl
    rw [hq]
    have heq : ∀ w, (binOp .eql 223 (.slice none 0 0) (.slice none 0 0)).run Tryd.prog w = .ok (.bool true) w := fun w => run_eql_nil_nil w _ _ Tryd.underlying223
    go_enter Tryd.func165, Tryd.ntmps165
    go_wp2_with fail
    go_ret
    exact ⟨_, rfl, Below.refl _ _, Own.nil _ _ _ _ _⟩
  | some a =>
    have heq : ∀ w, (binOp .eql 223 (.slice (some a) xs.length c) (.slice none 0 0)).run Tryd.prog w = .ok (.bool false) w := fun w => run_eql_some_nil w _ _ _ _ _ Tryd.underlying223
    have hB : Below w.heap.size w (w.alloc (.cells #[] 226)) := (Below.refl _ _).alloc (Nat.le_refl _) _
    obtain ⟨v1, w2, hr, ho, hg, hat⟩ := (Own.laid rdTry 226 (fun k => ok k ∧ k < w.heap.size) w w.heap.size (Nat.le_refl _)).append (t := 223) Tryd.underlying223 infoTry rfl (by decide) (by decide) (some a) xs.length c (fun h => by cases h) ((hC.bound).move (fun k hk _ => hB.block k hk.2)) (fun k hk => ⟨hk, by simp only [Value.ownBlock]; intro he; injection he with he; omega⟩) (by simp; omega) (by simp) 223
    have hres : Below w.heap.size w w2 ∧ Own rdTry 226 (fun _ => False) w2 w.heap.size v1 xs := by
      refine ⟨hB.grown hg hB.size (fun k hk => by simp [Value.ownBlock] at hk; omega), ?_⟩
      rw [List.nil_append] at ho
      exact ho.any
    have H := Lib.hid hres
    clear hres ho hg hat hB hC h3 h1 h2 hl
    generalize xs.length = m at *
    go_enter Tryd.func165, Tryd.ntmps165
    go_wp2_with (at_builtin; refine wpList_append_eq rfl _ _ _ rfl _ _ rfl rfl hr ?_)
    go_ret
    exact ⟨_, rfl, H.out.1, H.out.2⟩
end Go.Proofs.YtefkifdhjabdiaaDoor
namespace Go.Proofs.YtefkifdhjabdiaaDoor
set_option linter.unusedVariables false
set_option linter.unusedSimpArgs false
open Go.RowKit

structure St where
  seen : List Bool
  out : List (List Tr)
  todo : List Int
  bad : Bool
def comeF (n : Nat) (st : St) (at_ : Int) (l : List Tr) : St :=
  if (n : Int) ≤ at_ ∨ 20 < l.length then { st with bad := true }
  else if st.seen[at_.toNat]? = some false then { st with seen := st.seen.set at_.toNat true, out := st.out.set at_.toNat l, todo := st.todo ++ [at_] }
  else if st.out[at_.toNat]? = some l then st
  else { st with bad := true }

theorem cell_at {w : World} {b : Nat} {cs : Array Value} {t : TypeId} {fr : Nat × Nat} (h : w.heap[b]? = some (.cells cs t fr)) (i : Nat) {v : Value} (hi : cs[i]? = some v) : w.cell? ⟨b, i, none⟩ = some v := by
  rw [World.cell?, h]; exact hi
/-- A block just laid reads as laid. -/
theorem laid_cell {w : World} (cs : Array Value) (t : TypeId) (i : Nat) (v : Value) (h : cs[i]? = some v) : (w.alloc (.cells cs t)).cell? ⟨w.heap.size, i, none⟩ = some v := by
  rw [World.cell?, heap_alloc_new]; exact h
theorem free_at {w : World} {b : Nat} {cs : Array Value} {t : TypeId} (h : w.heap[b]? = some (.cells cs t (0, 0))) (i : Nat) : w.frozen? ⟨b, i, none⟩ = false := by
  simp [World.frozen?, h]
theorem block_set {w : World} {b : Nat} {cs : Array Value} {t : TypeId} {fr : Nat × Nat} (h : w.heap[b]? = some (.cells cs t fr)) (i : Nat) (v : Value) : (w.setCell ⟨b, i, none⟩ v).heap[b]? = some (.cells (cs.setIfInBounds i v) t fr) := by
  have hlt : b < w.heap.size := (Array.getElem?_eq_some_iff.1 h).1
  have h' : w.heap[b] = .cells cs t fr := (Array.getElem?_eq_some_iff.1 h).2
  show (w.heap.modify b _)[b]? = _
  rw [Array.getElem?_eq_getElem (by simpa using hlt), Array.getElem_modify_self, h']
  rfl

/-- The fields of a walk that stay. -/
structure Wf where
  n : Nat
  wb : Nat
  sb : Nat
  ob : Nat
  params : Int
  regs : Int
  gen : Bool
  v1 : Value
  A5 : Option Addr
  c5 : Nat
abbrev Wf.cells (f : Wf) (vt : Value) (bad : Bool) : Array Value := #[.int .i64 f.params, .int .i64 f.regs, .bool f.gen, f.v1, .slice f.A5 f.n f.c5, .slice (some ⟨f.sb, 0, none⟩) f.n f.n, .slice (some ⟨f.ob, 0, none⟩) f.n f.n, vt, .bool bad]
/-- What a walk's lists of tries may lie in. -/
def Wf.ok (f : Wf) (vt : Value) (k : Nat) : Prop := k ≠ f.wb ∧ k ≠ f.sb ∧ k ≠ f.ob ∧ some k ≠ vt.ownBlock
structure WS (w : World) (base : Nat) (f : Wf) (vt : Value) (st : St) : Prop where
  hw : w.heap[f.wb]? = some (.cells (f.cells vt st.bad) 210 (0, 0))
  hs : w.heap[f.sb]? = some (.cells (st.seen.map Value.bool).toArray 4 (0, 0))
  ho : ∃ outv : List Value, w.heap[f.ob]? = some (.cells outv.toArray 223 (0, 0)) ∧ outv.length = f.n ∧ ∀ (i : Nat) (v : Value) (l : List Tr), outv[i]? = some v → st.out[i]? = some l → SlK rdTry (f.ok vt) w l v
  own : Own Rd.int 3 (fun _ => False) w base vt st.todo
  ne : f.wb ≠ f.sb ∧ f.sb ≠ f.ob ∧ f.wb ≠ f.ob ∧ base ≤ f.wb ∧ base ≤ f.sb ∧ base ≤ f.ob
  tb : vt.ownBlock ≠ some f.wb ∧ vt.ownBlock ≠ some f.sb ∧ vt.ownBlock ≠ some f.ob
  ls : st.seen.length = f.n
  lo : st.out.length = f.n
  hn : f.n ≤ 600

theorem WS.same {w w1 : World} {base : Nat} {f : Wf} {vt : Value} {st : St} (h : WS w base f vt st) (hk : ∀ k, k < w.heap.size → w1.heap[k]? = w.heap[k]?) : WS w1 base f vt st := by
  have lt : ∀ {k o}, w.heap[k]? = some o → k < w.heap.size := fun h => (Array.getElem?_eq_some_iff.1 h).1
  obtain ⟨outv, h1, h2, h3⟩ := h.ho
  exact ⟨(hk _ (lt h.hw)).trans h.hw, (hk _ (lt h.hs)).trans h.hs, ⟨outv, (hk _ (lt h1)).trans h1, h2, fun i v l hv hl => (Rd.slice rdTry).move (fun k _ hlt => hk k hlt) (h3 i v l hv hl)⟩, h.own.move (fun k _ hlt => hk k hlt), h.ne, h.tb, h.ls, h.lo, h.hn⟩
/-- What a step keeps: whatever is not the walk's own. -/
structure Kept (f : Wf) (w w1 : World) (vt vt1 : Value) : Prop where
  block : ∀ k, k < w.heap.size → f.ok vt k → w1.heap[k]? = w.heap[k]?
  own : ∀ k, k < w.heap.size → some k ≠ vt.ownBlock → some k ≠ vt1.ownBlock
  size : w.heap.size ≤ w1.heap.size
theorem Kept.refl (f : Wf) (w : World) (vt : Value) : Kept f w w vt vt := ⟨fun _ _ _ => rfl, fun _ _ h => h, Nat.le_refl _⟩
theorem Kept.trans {f : Wf} {w w1 w2 : World} {vt vt1 vt2 : Value} (h : Kept f w w1 vt vt1) (h1 : Kept f w1 w2 vt1 vt2) : Kept f w w2 vt vt2 :=
  ⟨fun k hk ho => (h1.block k (Nat.lt_of_lt_of_le hk h.size) ⟨ho.1, ho.2.1, ho.2.2.1, h.own k hk ho.2.2.2⟩).trans (h.block k hk ho), fun k hk hv => h1.own k (Nat.lt_of_lt_of_le hk h.size) (h.own k hk hv), Nat.le_trans h.size h1.size⟩
theorem Kept.same {f : Wf} {w w1 : World} {vt : Value} (hb : Below w.heap.size w w1) : Kept f w w1 vt vt := ⟨fun k hk _ => hb.block k hk, fun _ _ h => h, hb.size⟩
/-- A list of tries stays. -/
theorem Kept.list {f : Wf} {w w1 : World} {vt vt1 : Value} (h : Kept f w w1 vt vt1) {l : List Tr} {v : Value} (hl : SlK rdTry (f.ok vt) w l v) : SlK rdTry (f.ok vt1) w1 l v :=
  (Rd.slice rdTry).mono (fun k hk => ⟨hk.1.1, hk.1.2.1, hk.1.2.2.1, h.own k hk.2 hk.1.2.2.2⟩) ((Rd.slice rdTry).move (fun k hk _ => h.block k hk.2 hk.1) ((Rd.slice rdTry).bound hl))
theorem Kept.wbset (f : Wf) (w : World) (i : Nat) (u : Value) (vt : Value) : Kept f w (w.setCell ⟨f.wb, i, none⟩ u) vt vt :=
  ⟨fun k _ ho => Below.heap_setCell _ _ _ _ ho.1, fun _ _ h => h, by simp [World.setCell]⟩
/-- The mark that it is bad. -/
theorem WS.setBad {w : World} {base : Nat} {f : Wf} {vt : Value} {st : St} (h : WS w base f vt st) : WS (w.setCell ⟨f.wb, 8, none⟩ (.bool true)) base f vt { st with bad := true } := by
  obtain ⟨n1, n2, n3, b1, b2, b3⟩ := h.ne
  obtain ⟨t1, t2, t3⟩ := h.tb
  have K : ∀ k, k ≠ f.wb → (w.setCell ⟨f.wb, 8, none⟩ (.bool true)).heap[k]? = w.heap[k]? := fun k hk => Below.heap_setCell _ _ _ _ hk
  have hq : ∀ k, (False ∨ vt.ownBlock = some k) → k ≠ f.wb := by
    rintro k (hk | hk) rfl
    · exact hk
    · exact t1 hk
  obtain ⟨outv, h1, h2, h3⟩ := h.ho
  refine ⟨?_, (K _ (Ne.symm n1)).trans h.hs, ⟨outv, (K _ (Ne.symm n3)).trans h1, h2, fun i v l hv hl => (Rd.slice rdTry).move (fun k hk _ => K k hk.1) (h3 i v l hv hl)⟩, h.own.move (fun k hk _ => K k (hq k hk)), h.ne, h.tb, h.ls, h.lo, h.hn⟩
  rw [block_set h.hw 8]
  rfl
theorem WS.below {w : World} {base : Nat} {f : Wf} {vt : Value} {st : St} (h : WS w base f vt st) (i : Nat) (v : Value) : Below base w (w.setCell ⟨f.wb, i, none⟩ v) := by
  obtain ⟨n1, n2, n3, b1, b2, b3⟩ := h.ne
  exact (Below.refl _ _).setCell b1 v

/-- A place is seen, and its tries are laid down. -/
theorem WS.mark {w : World} {base : Nat} {f : Wf} {vt : Value} {st : St} (h : WS w base f vt st) (i : Nat) (hi : i < f.n) (v : Value) (l : List Tr) (hl : SlK rdTry (f.ok vt) w l v) :
    WS ((w.setCell ⟨f.sb, i, none⟩ (.bool true)).setCell ⟨f.ob, i, none⟩ v).drew base f vt { st with seen := st.seen.set i true, out := st.out.set i l } ∧ Below base w ((w.setCell ⟨f.sb, i, none⟩ (.bool true)).setCell ⟨f.ob, i, none⟩ v).drew ∧ Kept f w ((w.setCell ⟨f.sb, i, none⟩ (.bool true)).setCell ⟨f.ob, i, none⟩ v).drew vt vt := by
  obtain ⟨n1, n2, n3, b1, b2, b3⟩ := h.ne
  obtain ⟨t1, t2, t3⟩ := h.tb
  obtain ⟨outv, h1, h2, h3⟩ := h.ho
  have K : ∀ k, k ≠ f.sb → k ≠ f.ob → ((w.setCell ⟨f.sb, i, none⟩ (.bool true)).setCell ⟨f.ob, i, none⟩ v).drew.heap[k]? = w.heap[k]? := fun k hk hk' => by
    show ((w.setCell ⟨f.sb, i, none⟩ (.bool true)).setCell ⟨f.ob, i, none⟩ v).heap[k]? = _
    rw [Below.heap_setCell _ _ _ _ hk', Below.heap_setCell _ _ _ _ hk]
  have hq : ∀ k, (False ∨ vt.ownBlock = some k) → k ≠ f.sb ∧ k ≠ f.ob := by
    rintro k (hk | hk)
    · exact hk.elim
    · exact ⟨by rintro rfl; exact t2 hk, by rintro rfl; exact t3 hk⟩
  refine ⟨⟨(K _ n1 n3).trans h.hw, ?_, ⟨outv.set i v, ?_, by rw [List.length_set]; exact h2, fun j u m hu hm => ?_⟩, h.own.move (fun k hk _ => K k (hq k hk).1 (hq k hk).2), h.ne, h.tb, by rw [List.length_set]; exact h.ls, by rw [List.length_set]; exact h.lo, h.hn⟩, ((Below.refl _ _).setCell b2 _).setCell b3 _ |>.drew, ⟨fun k _ ho => K k ho.2.1 ho.2.2.1, fun _ _ h => h, by show w.heap.size ≤ ((w.setCell ⟨f.sb, i, none⟩ (.bool true)).setCell ⟨f.ob, i, none⟩ v).heap.size; simp [World.setCell]⟩⟩
  · show ((w.setCell ⟨f.sb, i, none⟩ (.bool true)).setCell ⟨f.ob, i, none⟩ v).heap[f.sb]? = _
    rw [Below.heap_setCell _ _ _ _ n2, block_set h.hs i]
    simp [List.map_set]
  · show ((w.setCell ⟨f.sb, i, none⟩ (.bool true)).setCell ⟨f.ob, i, none⟩ v).heap[f.ob]? = _
    rw [block_set (cs := outv.toArray) (by rw [Below.heap_setCell _ _ _ _ (Ne.symm n2)]; exact h1) i]
    simp
  · have mv : ∀ {m : List Tr} {u : Value}, SlK rdTry (f.ok vt) w m u → SlK rdTry (f.ok vt) ((w.setCell ⟨f.sb, i, none⟩ (.bool true)).setCell ⟨f.ob, i, none⟩ v).drew m u := fun hm => (Rd.slice rdTry).move (fun k hk _ => K k hk.2.1 hk.2.2.1) hm
    simp only at hm
    by_cases hij : i = j
    · subst hij
      rw [List.getElem?_set_self (by rw [h2]; exact hi)] at hu
      rw [List.getElem?_set_self (by rw [h.lo]; exact hi)] at hm
      injection hu with hu
      injection hm with hm
      subst hu hm
      exact mv hl
    · rw [List.getElem?_set_ne hij] at hu hm
      exact mv (h3 j u m hu hm)
/-- A place comes behind those that are to be done. -/
theorem WS.push {w : World} {base : Nat} {f : Wf} {vt : Value} {st : St} (h : WS w base f vt st) (i : Nat) (hi : i < f.n) (hlen : st.todo.length ≤ 1000) (hbase : base ≤ w.heap.size) :
    ∃ v1 w1, (Builtin.append_ #[41, 41] 41 #[vt, .slice (some ⟨w.heap.size, 0, none⟩) 1 1]).run Tryd.prog (w.alloc (.cells #[.int .i64 i] 3)) = .ok v1 w1 ∧
      w1.heap[f.wb]? = some (.cells (f.cells vt st.bad) 210 (0, 0)) ∧ Below base w (w1.setCell ⟨f.wb, 7, none⟩ v1) ∧ Kept f w (w1.setCell ⟨f.wb, 7, none⟩ v1) vt v1 ∧ WS (w1.setCell ⟨f.wb, 7, none⟩ v1) base f v1 { st with todo := st.todo ++ [(i : Int)] } := by
  have hn := h.hn
  obtain ⟨n1, n2, n3, b1, b2, b3⟩ := h.ne
  obtain ⟨t1, t2, t3⟩ := h.tb
  obtain ⟨outv, h1, h2, h3⟩ := h.ho
  have lt : ∀ {k o}, w.heap[k]? = some o → k < w.heap.size := fun h => (Array.getElem?_eq_some_iff.1 h).1
  have lw := lt h.hw
  have ls := lt h.hs
  have lo := lt h1
  have hC := C_lit (w := w.alloc (.cells #[.int .i64 i] 3)) w.heap.size #[.int .i64 i] _ _ (heap_alloc_new _ _) 1 [(i : Int)] rfl (fun j x hx => by
    match j, hx with
    | 0, hx => simp at hx; subst hx; exact ⟨rfl, by simp only [Rd.IsInt]; omega⟩
    | j + 1, hx => simp at hx) (by omega)
  obtain ⟨v1, w1, hr, ho, hg, hat⟩ := (h.own.alloc (.cells #[.int .i64 i] 3)).mono (ok' := fun k => k = w.heap.size) (fun k hk => hk.elim) |>.append (t := 41) Tryd.underlying41 infoInt rfl (by decide) (by decide) (some ⟨w.heap.size, 0, none⟩) 1 1 (fun h => by cases h) hC (fun k hk => ⟨hk, fun he => by have := (h.own.lt k he.symm).2; omega⟩) (by omega) (by simp; omega) 41
  -- what the append leaves alone
  have K1 : ∀ k, k < w.heap.size → some k ≠ vt.ownBlock → w1.heap[k]? = w.heap[k]? := fun k hk hv => by
    rw [hg.block k (by simp; omega) hv, Below.heap_alloc _ _ _ hk]
  have K : ∀ k, k < w.heap.size → some k ≠ vt.ownBlock → k ≠ f.wb → (w1.setCell ⟨f.wb, 7, none⟩ v1).heap[k]? = w.heap[k]? := fun k hk hv hw => by
    rw [Below.heap_setCell _ _ _ _ hw, K1 k hk hv]
  have hw1 : w1.heap[f.wb]? = some (.cells (f.cells vt st.bad) 210 (0, 0)) := (K1 _ lw (Ne.symm t1)).trans h.hw
  have hne : ∀ k, k < w.heap.size → some k ≠ vt.ownBlock → some k ≠ v1.ownBlock := fun k hk hv => by
    rcases hat with hat | hat
    · rw [hat]; exact hv
    · rw [hat]; intro he; injection he with he; simp at he; omega
  have B0 : Below base w (w.alloc (.cells #[.int .i64 i] 3)) := (Below.refl _ _).alloc hbase _
  have B1 : Below base w w1 := B0.grown hg (by simp; omega) (fun k hk => (h.own.lt k hk).1)
  have S1 : w.heap.size ≤ w1.heap.size := by have := hg.size; simp at this; omega
  refine ⟨v1, w1, hr, hw1, B1.setCell b1 _, ⟨fun k hk ho => K k hk ho.2.2.2 ho.1, hne, by simpa [World.setCell] using S1⟩, ⟨?_, (K _ ls (Ne.symm t2) (Ne.symm n1)).trans h.hs, ⟨outv, (K _ lo (Ne.symm t3) (Ne.symm n3)).trans h1, h2, fun j u m hu hm => ?_⟩, ?_, h.ne, ⟨fun he => hne _ lw (Ne.symm t1) he.symm, fun he => hne _ ls (Ne.symm t2) he.symm, fun he => hne _ lo (Ne.symm t3) he.symm⟩, h.ls, h.lo, h.hn⟩⟩
  · rw [block_set hw1 7]
    rfl
  · have := (Rd.slice rdTry).bound (h3 j u m hu hm)
    exact (Rd.slice rdTry).mono (fun k hk => ⟨hk.1.1, hk.1.2.1, hk.1.2.2.1, hne k hk.2 hk.1.2.2.2⟩) ((Rd.slice rdTry).move (fun k hk _ => K k hk.2 hk.1.2.2.2 hk.1.1) this)
  · obtain ⟨cells, o1, o2⟩ := ho.ex
    have ho' : Own Rd.int 3 (fun _ => False) w1 base v1 (st.todo ++ [(i : Int)]) := ⟨cells, o1, fun j x hj => o2 j x hj⟩
    refine ho'.move (fun k hk hlt => ?_)
    rcases hk with hk | hk
    · exact hk.elim
    · refine Below.heap_setCell _ _ _ _ ?_
      rintro rfl
      exact hne _ lw (Ne.symm t1) hk.symm
end Go.Proofs.YtefkifdhjabdiaaDoor
namespace Go.Proofs.YtefkifdhjabdiaaDoor
set_option linter.unusedVariables false
set_option linter.unusedSimpArgs false
open Go.RowKit

set_option maxRecDepth 100000 in
set_option maxHeartbeats 8000000 in
theorem come_bad (w : World) (base : Nat) (f : Wf) (vt : Value) (st : St) (h : WS w base f vt st) (at_ : Int) (A : Option Addr) (m c : Nat) (hb : (f.n : Int) ≤ at_ ∨ 20 < m) :
    Calls Tryd.prog 149 #[.pointer (some ⟨f.wb, 0, none⟩), .int .i64 at_, .slice A m c] w fun e w' => e = .returned (.tuple #[]) ∧ Below base w w' ∧ ∃ vt', Kept f w w' vt vt' ∧ WS w' base f vt' { st with bad := true } := by
  have e4 : w.cell? ⟨f.wb, 4, none⟩ = some (.slice f.A5 f.n f.c5) := cell_at h.hw 4 rfl
  have e8 : w.cell? ⟨f.wb, 8, none⟩ = some (.bool st.bad) := cell_at h.hw 8 rfl
  have fr : w.frozen? ⟨f.wb, 8, none⟩ = false := free_at h.hw 8
  have R := Lib.hid (And.intro (h.below 8 (.bool true)) h.setBad)
  clear h
  by_cases hn : (f.n : Int) ≤ at_
  · go_enter Tryd.func149, Tryd.ntmps149
    go_wp2_with fail
    go_end0
    exact ⟨rfl, R.out.1, vt, Kept.wbset f w 8 _ vt, R.out.2⟩
  · have hm : 20 < m := by omega
    go_enter Tryd.func149, Tryd.ntmps149
    go_wp2_with fail
    go_end0
    exact ⟨rfl, R.out.1, vt, Kept.wbset f w 8 _ vt, R.out.2⟩

set_option maxRecDepth 100000 in
set_option maxHeartbeats 8000000 in
theorem come_new (w : World) (base : Nat) (hbase : base ≤ w.heap.size) (f : Wf) (vt : Value) (st : St) (h : WS w base f vt st) (at_ : Nat) (v : Value) (l : List Tr) (hl : SlK rdTry (f.ok vt) w l v) (hi : at_ < f.n) (h20 : l.length ≤ 20) (hs : st.seen[at_]? = some false) (hlen : st.todo.length ≤ 1000) :
    Calls Tryd.prog 149 #[.pointer (some ⟨f.wb, 0, none⟩), .int .i64 at_, v] w fun e w' => e = .returned (.tuple #[]) ∧ Below base w w' ∧ ∃ vt', Kept f w w' vt vt' ∧ WS w' base f vt' { st with seen := st.seen.set at_ true, out := st.out.set at_ l, todo := st.todo ++ [(at_ : Int)] } := by
  obtain ⟨M, MB, MK⟩ := h.mark at_ hi v l hl
  obtain ⟨v1, w1, hr, hw1, PB, PK, P⟩ := M.push at_ hi hlen (Nat.le_trans hbase MB.size)
  obtain ⟨A1, q0, q1, hv1⟩ : ∃ A1 q0 q1, v1 = .slice A1 q0 q1 := by
    obtain ⟨A1, q1, hv1, _⟩ := P.own.reads (by decide)
    injection hv1 with hv1
    exact ⟨_, _, _, hv1⟩
  subst hv1
  have HP := Lib.hid (And.intro (MB.trans PB) (And.intro (MK.trans PK) P))
  have e7' : (((w.setCell ⟨f.sb, at_, none⟩ (.bool true)).setCell ⟨f.ob, at_, none⟩ v).drew).cell? ⟨f.wb, 7, none⟩ = some vt := cell_at M.hw 7 rfl
  have lw : f.wb < (((w.setCell ⟨f.sb, at_, none⟩ (.bool true)).setCell ⟨f.ob, at_, none⟩ v).drew).heap.size := (Array.getElem?_eq_some_iff.1 M.hw).1
  have x7 : w1.cell? ⟨f.wb, 7, none⟩ = some vt := cell_at hw1 7 rfl
  have xf : w1.frozen? ⟨f.wb, 7, none⟩ = false := free_at hw1 7
  clear hw1 M MB PB P MK PK
  obtain ⟨W1, hW1⟩ : ∃ W1, W1 = ((w.setCell ⟨f.sb, at_, none⟩ (.bool true)).setCell ⟨f.ob, at_, none⟩ v).drew := ⟨_, rfl⟩
  rw [← hW1] at hr e7' lw
  obtain ⟨A, c, hv, l1, l2, l3, hC⟩ := hl
  injection hv with hv
  subst hv
  have e4 : w.cell? ⟨f.wb, 4, none⟩ = some (.slice f.A5 f.n f.c5) := cell_at h.hw 4 rfl
  have e5 : w.cell? ⟨f.wb, 5, none⟩ = some (.slice (some ⟨f.sb, 0, none⟩) f.n f.n) := cell_at h.hw 5 rfl
  have e6 : w.cell? ⟨f.wb, 6, none⟩ = some (.slice (some ⟨f.ob, 0, none⟩) f.n f.n) := cell_at h.hw 6 rfl
  have frs := free_at h.hs at_
  have es : w.cell? ⟨f.sb, at_, none⟩ = some (.bool false) := cell_at h.hs at_ (by simp [hs])
  obtain ⟨outv, o1, o2, o3⟩ := h.ho
  have fro := free_at o1 at_
  obtain ⟨u0, hu0⟩ : ∃ u0, outv[at_]? = some u0 := ⟨_, List.getElem?_eq_getElem (by omega)⟩
  have eo : w.cell? ⟨f.ob, at_, none⟩ = some u0 := cell_at o1 at_ (by simpa using hu0)
  have es' : ∀ u, (w.setCell ⟨f.ob, at_, none⟩ u).cell? ⟨f.sb, at_, none⟩ = some (.bool false) := fun u => by rw [World.cell?_setCell_other _ _ _ _ (by intro hq; injection hq with hq; exact h.ne.2.1 (by first | exact hq | exact hq.symm))]; exact es
  have eo' : ∀ u, (w.setCell ⟨f.sb, at_, none⟩ u).cell? ⟨f.ob, at_, none⟩ = some u0 := fun u => by rw [World.cell?_setCell_other _ _ _ _ (by intro hq; injection hq with hq; exact h.ne.2.1 (by first | exact hq | exact hq.symm))]; exact eo
  have hn := h.hn
  have hb1 : (at_ : Int) < (f.n : Int) := by omega
  clear h o1 o2 o3 hu0 hC hs l3
  go_enter Tryd.func149, Tryd.ntmps149
  go_wp2_with fail
  go_region
  rw [← hW1]
  clear hW1 es' eo' es eo frs fro e4 e5 e6
  go_wp2_with (at_builtin; refine wpList_append_eq rfl _ _ _ rfl _ _ rfl rfl hr ?_)
  go_end0
  exact ⟨rfl, HP.out.1, _, HP.out.2.1, HP.out.2.2⟩

set_option maxRecDepth 100000 in
set_option maxHeartbeats 8000000 in
theorem come_old (w : World) (base : Nat) (hbase : base ≤ w.heap.size) (f : Wf) (vt : Value) (st : St) (h : WS w base f vt st) (at_ : Nat) (v : Value) (l : List Tr) (hl : SlK rdTry (f.ok vt) w l v) (hi : at_ < f.n) (h20 : l.length ≤ 20) (hs : st.seen[at_]? = some true) :
    Calls Tryd.prog 149 #[.pointer (some ⟨f.wb, 0, none⟩), .int .i64 at_, v] w fun e w' => e = .returned (.tuple #[]) ∧ Below base w w' ∧ ∃ vt', Kept f w w' vt vt' ∧ WS w' base f vt' (if st.out[at_]? = some l then st else { st with bad := true }) := by
  obtain ⟨outv, o1, o2, o3⟩ := h.ho
  obtain ⟨m, hm⟩ : ∃ m, st.out[at_]? = some m := ⟨_, List.getElem?_eq_getElem (by rw [h.lo]; exact hi)⟩
  obtain ⟨u0, hu0⟩ : ∃ u0, outv[at_]? = some u0 := ⟨_, List.getElem?_eq_getElem (by omega)⟩
  obtain ⟨A', c', hv', _, _, _, hC'⟩ := o3 at_ u0 m hu0 hm
  injection hv' with hv'
  subst hv'
  obtain ⟨A, c, hv, l1, l2, l3, hC⟩ := hl
  injection hv with hv
  subst hv
  have E := Lib.hid (fun w2 => eqTry_any w2 A' A m.length l.length c' c m l)
  have HE : Hid (Calls Tryd.prog 164 #[.slice A' m.length c', .slice A l.length c] w fun e w' => e = .returned (.bool (decide (m = l))) ∧ Below w.heap.size w w') := Lib.hid (E.out w _ _ hC' hC)
  have e4 : w.cell? ⟨f.wb, 4, none⟩ = some (.slice f.A5 f.n f.c5) := cell_at h.hw 4 rfl
  have e5 : w.cell? ⟨f.wb, 5, none⟩ = some (.slice (some ⟨f.sb, 0, none⟩) f.n f.n) := cell_at h.hw 5 rfl
  have e6 : w.cell? ⟨f.wb, 6, none⟩ = some (.slice (some ⟨f.ob, 0, none⟩) f.n f.n) := cell_at h.hw 6 rfl
  have es : w.cell? ⟨f.sb, at_, none⟩ = some (.bool true) := cell_at h.hs at_ (by simp [hs])
  have eo : w.cell? ⟨f.ob, at_, none⟩ = some (.slice A' m.length c') := cell_at o1 at_ (by simpa using hu0)
  have hn := h.hn
  have hb1 : (at_ : Int) < (f.n : Int) := by omega
  have hlb : f.wb < w.heap.size := (Array.getElem?_eq_some_iff.1 h.hw).1
  have H := Lib.hid h
  have HM := Lib.hid hm
  clear h o1 o2 o3 hu0 hC hs l3 hC' E hm
  by_cases hml : m = l
  · have hd : decide (m = l) = true := by simpa using hml
    rw [hd] at HE
    have R := Lib.hid (show (if st.out[at_]? = some l then st else { st with bad := true }) = st by rw [HM.out, hml]; simp)
    rw [R.out]
    clear hd hml R
    go_enter Tryd.func149, Tryd.ntmps149
    go_wp2_with fail
    refine (HE.out).mono ?_
    rintro e w1 ⟨rfl, hb⟩
    have HB := Lib.hid hb
    clear hb
    go_wp2_with fail
    go_end0
    exact ⟨rfl, HB.out.mono hbase, vt, Kept.same HB.out, H.out.same (fun k hk => HB.out.block k hk)⟩
  · have hd : decide (m = l) = false := by simpa using hml
    rw [hd] at HE
    have R := Lib.hid (show (if st.out[at_]? = some l then st else { st with bad := true }) = { st with bad := true } by rw [HM.out]; simp [hml])
    rw [R.out]
    clear hd hml R
    go_enter Tryd.func149, Tryd.ntmps149
    go_wp2_with fail
    refine (HE.out).mono ?_
    rintro e w1 ⟨rfl, hb⟩
    have H1 := H.out.same (fun k hk => hb.block k hk)
    have e8 : w1.cell? ⟨f.wb, 8, none⟩ = some (.bool st.bad) := cell_at H1.hw 8 rfl
    have fr : w1.frozen? ⟨f.wb, 8, none⟩ = false := free_at H1.hw 8
    have HB := Lib.hid (And.intro ((hb.mono hbase).trans (H1.below 8 (.bool true))) (And.intro ((Kept.same (f := f) (vt := vt) hb).trans (Kept.wbset f w1 8 (.bool true) vt)) H1.setBad))
    clear hb H1
    go_wp2_with fail
    go_end0
    exact ⟨rfl, HB.out.1, vt, HB.out.2.1, HB.out.2.2⟩

/-- 'come', whole. -/
theorem come_any (w : World) (base : Nat) (hbase : base ≤ w.heap.size) (f : Wf) (vt : Value) (st : St) (h : WS w base f vt st) (at_ : Int) (h0 : 0 ≤ at_) (v : Value) (l : List Tr) (hl : SlK rdTry (f.ok vt) w l v) (hlen : st.todo.length ≤ 1000) :
    Calls Tryd.prog 149 #[.pointer (some ⟨f.wb, 0, none⟩), .int .i64 at_, v] w fun e w' => e = .returned (.tuple #[]) ∧ Below base w w' ∧ ∃ vt', Kept f w w' vt vt' ∧ WS w' base f vt' (comeF f.n st at_ l) := by
  unfold comeF
  by_cases hb : (f.n : Int) ≤ at_ ∨ 20 < l.length
  · rw [if_pos hb]
    obtain ⟨A, c, hv, _⟩ := hl
    injection hv with hv
    subst hv
    exact come_bad w base f vt st h at_ A _ c hb
  · rw [if_neg hb]
    obtain ⟨i, rfl⟩ := Int.eq_ofNat_of_zero_le h0
    have hi : i < f.n := by omega
    obtain ⟨s, hs⟩ : ∃ s, st.seen[i]? = some s := ⟨_, List.getElem?_eq_getElem (by rw [h.ls]; exact hi)⟩
    rw [Int.toNat_natCast]
    cases s with
    | false =>
      rw [if_pos hs]
      exact come_new w base hbase f vt st h i v l hl hi (by omega) hs hlen
    | true =>
      rw [if_neg (by rw [hs]; simp)]
      exact come_old w base hbase f vt st h i v l hl hi (by omega) hs
end Go.Proofs.YtefkifdhjabdiaaDoor
namespace Go.Proofs.YtefkifdhjabdiaaDoor
set_option linter.unusedVariables false
set_option linter.unusedSimpArgs false
open Go.RowKit

def fromF (n : Nat) (code : List Ord) (st : St) (at_ : Nat) : St :=
  match code[at_]?, st.out[at_]? with
  | some i, some l =>
    if i.op = 28 ∨ i.op = 29 then st
    else if i.op = 13 ∨ i.op = 14 then comeF n st i.a l
    else if i.op = 15 then comeF n (comeF n st i.b l) ((at_ : Int) + 1) l
    else if i.op = 30 then comeF n (comeF n st i.b l) ((at_ : Int) + 1) (l ++ [⟨i.a, i.b⟩])
    else if i.op = 31 then (if l = [] then { st with bad := true } else comeF n st ((at_ : Int) + 1) l.dropLast)
    else comeF n st ((at_ : Int) + 1) l
  | _, _ => st
theorem comeF_todo (n : Nat) (st : St) (at_ : Int) (l : List Tr) : (comeF n st at_ l).todo.length ≤ st.todo.length + 1 := by
  unfold comeF
  split
  · simp
  · split
    · simp
    · split <;> simp


set_option maxRecDepth 100000 in
set_option maxHeartbeats 8000000 in
theorem from_28 (w : World) (base : Nat) (hbase : base ≤ w.heap.size) (f : Wf) (vt : Value) (st : St) (h : WS w base f vt st) (hlen : st.todo.length ≤ 900) (at_ : Nat) (hi : at_ < f.n) (code : List Ord) (hcode : rdOrd.CB base w f.A5 f.n code) (i : Ord) (hci : code[at_]? = some i) (l : List Tr) (hm : st.out[at_]? = some l) (h20 : l.length ≤ 20) (hop : i.op = 28) :
    Calls Tryd.prog 150 #[.pointer (some ⟨f.wb, 0, none⟩), .int .i64 at_] w fun e w' => e = .returned (.tuple #[]) ∧ Below base w w' ∧ ∃ vt', Kept f w w' vt vt' ∧ WS w' base f vt' st := by
  obtain ⟨outv, o1, o2, o3⟩ := h.ho
  obtain ⟨u0, hu0⟩ : ∃ u0, outv[at_]? = some u0 := ⟨_, List.getElem?_eq_getElem (by omega)⟩
  have hsl := o3 at_ u0 l hu0 hm
  obtain ⟨A', c', hv', s1, s2, s3, hC'⟩ := hsl
  injection hv' with hv'
  subst hv'
  obtain ⟨ad, cs, hA5, hadb, hads, ⟨rfl, hii⟩, hc0, hcj⟩ := hcode.elem at_ i hci
  obtain ⟨op, a, b, c, line⟩ := i
  simp only [Ord.cells] at hop hc0 hcj ⊢
  have n28 : (op == 28) = true := by rw [hop]; rfl
  clear hop
  have x0 : w.cell? (ad.add (at_ * 5)) = some (.int .i64 op) := hc0 _ rfl
  have x1 : w.cell? ⟨(ad.add (at_ * 5)).block, (ad.add (at_ * 5)).off + 1, none⟩ = some (.int .i64 a) := hcj 0 _ rfl
  have x2 : w.cell? ⟨(ad.add (at_ * 5)).block, (ad.add (at_ * 5)).off + 2, none⟩ = some (.int .i64 b) := hcj 1 _ rfl
  have x3 : w.cell? ⟨(ad.add (at_ * 5)).block, (ad.add (at_ * 5)).off + 3, none⟩ = some (.int .i64 c) := hcj 2 _ rfl
  have x4 : w.cell? ⟨(ad.add (at_ * 5)).block, (ad.add (at_ * 5)).off + 4, none⟩ = some (.int .i64 line) := hcj 3 _ rfl
  have xb : (ad.add (at_ * 5)).block < w.heap.size := by rw [Rd.block_add]; exact hads
  have e4 : w.cell? ⟨f.wb, 4, none⟩ = some (.slice (some ad) f.n f.c5) := by rw [cell_at h.hw 4 rfl]; simp [hA5]
  have e6 : w.cell? ⟨f.wb, 6, none⟩ = some (.slice (some ⟨f.ob, 0, none⟩) f.n f.n) := cell_at h.hw 6 rfl
  have eo : w.cell? ⟨f.ob, at_, none⟩ = some (.slice A' l.length c') := cell_at o1 at_ (by simpa using hu0)
  have lw : f.wb < w.heap.size := (Array.getElem?_eq_some_iff.1 h.hw).1
  have lo : f.ob < w.heap.size := (Array.getElem?_eq_some_iff.1 o1).1
  have ls : f.sb < w.heap.size := (Array.getElem?_eq_some_iff.1 h.hs).1
  have hn := h.hn
  have hb1 : (at_ : Int) < (f.n : Int) := by omega
  obtain ⟨W1, hW1⟩ : ∃ W1, W1 = (w.alloc (.cells #[.int .i64 op, .int .i64 a, .int .i64 b, .int .i64 c, .int .i64 line] 189)).drew := ⟨_, rfl⟩
  have sz1 : W1.heap.size = w.heap.size + 1 := by rw [hW1]; simp
  have same : Below w.heap.size w W1 := by rw [hW1]; exact ((Below.refl _ _).alloc (Nat.le_refl _) _).drew
  have hWS := h.same (fun k hk => same.block k hk)
  have hok : f.ok vt w.heap.size := ⟨by omega, by omega, by omega, fun he => by have := (h.own.lt _ he.symm).2; omega⟩
  have hK0 : Kept f w W1 vt vt := Kept.same same
  have hL : SlK rdTry (f.ok vt) W1 l (.slice A' l.length c') := hK0.list ⟨A', c', rfl, s1, s2, s3, hC'⟩
  have y0 : W1.cell? ⟨w.heap.size, 0, none⟩ = some (.int .i64 op) := by rw [hW1]; show (w.alloc _).cell? _ = _; exact laid_cell _ _ _ _ rfl
  have y1 : W1.cell? ⟨w.heap.size, 1, none⟩ = some (.int .i64 a) := by rw [hW1]; show (w.alloc _).cell? _ = _; exact laid_cell _ _ _ _ rfl
  have y2 : W1.cell? ⟨w.heap.size, 2, none⟩ = some (.int .i64 b) := by rw [hW1]; show (w.alloc _).cell? _ = _; exact laid_cell _ _ _ _ rfl
  have HCM := Lib.hid (fun (x : Int) (hx : 0 ≤ x) => come_any W1 base (by omega) f vt st hWS x hx _ l hL (by omega))
  have H0 := Lib.hid (And.intro (same.mono hbase) (And.intro hK0 hWS))
  have HL := Lib.hid hL
  have HO := Lib.hid hok
  clear h o1 o2 o3 hu0 hC' hc0 hcj hcode same hWS hK0 hL hok hads hadb hA5 hii
  go_enter Tryd.func150, Tryd.ntmps150
  go_wp2_with fail
  go_region
  rw [← hW1]
  clear hW1 x0 x1 x2 x3 x4 xb e4 e6 eo lo ls
  go_wp2_with fail
  refine bodyPost_ret (results_none rfl _ _ _) rfl ?_
  exact ⟨rfl, H0.out.1, vt, H0.out.2.1, H0.out.2.2⟩


set_option maxRecDepth 100000 in
set_option maxHeartbeats 8000000 in
theorem from_29 (w : World) (base : Nat) (hbase : base ≤ w.heap.size) (f : Wf) (vt : Value) (st : St) (h : WS w base f vt st) (hlen : st.todo.length ≤ 900) (at_ : Nat) (hi : at_ < f.n) (code : List Ord) (hcode : rdOrd.CB base w f.A5 f.n code) (i : Ord) (hci : code[at_]? = some i) (l : List Tr) (hm : st.out[at_]? = some l) (h20 : l.length ≤ 20) (hop : i.op = 29) :
    Calls Tryd.prog 150 #[.pointer (some ⟨f.wb, 0, none⟩), .int .i64 at_] w fun e w' => e = .returned (.tuple #[]) ∧ Below base w w' ∧ ∃ vt', Kept f w w' vt vt' ∧ WS w' base f vt' st := by
  obtain ⟨outv, o1, o2, o3⟩ := h.ho
  obtain ⟨u0, hu0⟩ : ∃ u0, outv[at_]? = some u0 := ⟨_, List.getElem?_eq_getElem (by omega)⟩
  have hsl := o3 at_ u0 l hu0 hm
  obtain ⟨A', c', hv', s1, s2, s3, hC'⟩ := hsl
  injection hv' with hv'
  subst hv'
  obtain ⟨ad, cs, hA5, hadb, hads, ⟨rfl, hii⟩, hc0, hcj⟩ := hcode.elem at_ i hci
  obtain ⟨op, a, b, c, line⟩ := i
  simp only [Ord.cells] at hop hc0 hcj ⊢
  have n28 : (op == 28) = false := by rw [hop]; rfl
  have n29 : (op == 29) = true := by rw [hop]; rfl
  clear hop
  have x0 : w.cell? (ad.add (at_ * 5)) = some (.int .i64 op) := hc0 _ rfl
  have x1 : w.cell? ⟨(ad.add (at_ * 5)).block, (ad.add (at_ * 5)).off + 1, none⟩ = some (.int .i64 a) := hcj 0 _ rfl
  have x2 : w.cell? ⟨(ad.add (at_ * 5)).block, (ad.add (at_ * 5)).off + 2, none⟩ = some (.int .i64 b) := hcj 1 _ rfl
  have x3 : w.cell? ⟨(ad.add (at_ * 5)).block, (ad.add (at_ * 5)).off + 3, none⟩ = some (.int .i64 c) := hcj 2 _ rfl
  have x4 : w.cell? ⟨(ad.add (at_ * 5)).block, (ad.add (at_ * 5)).off + 4, none⟩ = some (.int .i64 line) := hcj 3 _ rfl
  have xb : (ad.add (at_ * 5)).block < w.heap.size := by rw [Rd.block_add]; exact hads
  have e4 : w.cell? ⟨f.wb, 4, none⟩ = some (.slice (some ad) f.n f.c5) := by rw [cell_at h.hw 4 rfl]; simp [hA5]
  have e6 : w.cell? ⟨f.wb, 6, none⟩ = some (.slice (some ⟨f.ob, 0, none⟩) f.n f.n) := cell_at h.hw 6 rfl
  have eo : w.cell? ⟨f.ob, at_, none⟩ = some (.slice A' l.length c') := cell_at o1 at_ (by simpa using hu0)
  have lw : f.wb < w.heap.size := (Array.getElem?_eq_some_iff.1 h.hw).1
  have lo : f.ob < w.heap.size := (Array.getElem?_eq_some_iff.1 o1).1
  have ls : f.sb < w.heap.size := (Array.getElem?_eq_some_iff.1 h.hs).1
  have hn := h.hn
  have hb1 : (at_ : Int) < (f.n : Int) := by omega
  obtain ⟨W1, hW1⟩ : ∃ W1, W1 = (w.alloc (.cells #[.int .i64 op, .int .i64 a, .int .i64 b, .int .i64 c, .int .i64 line] 189)).drew := ⟨_, rfl⟩
  have sz1 : W1.heap.size = w.heap.size + 1 := by rw [hW1]; simp
  have same : Below w.heap.size w W1 := by rw [hW1]; exact ((Below.refl _ _).alloc (Nat.le_refl _) _).drew
  have hWS := h.same (fun k hk => same.block k hk)
  have hok : f.ok vt w.heap.size := ⟨by omega, by omega, by omega, fun he => by have := (h.own.lt _ he.symm).2; omega⟩
  have hK0 : Kept f w W1 vt vt := Kept.same same
  have hL : SlK rdTry (f.ok vt) W1 l (.slice A' l.length c') := hK0.list ⟨A', c', rfl, s1, s2, s3, hC'⟩
  have y0 : W1.cell? ⟨w.heap.size, 0, none⟩ = some (.int .i64 op) := by rw [hW1]; show (w.alloc _).cell? _ = _; exact laid_cell _ _ _ _ rfl
  have y1 : W1.cell? ⟨w.heap.size, 1, none⟩ = some (.int .i64 a) := by rw [hW1]; show (w.alloc _).cell? _ = _; exact laid_cell _ _ _ _ rfl
  have y2 : W1.cell? ⟨w.heap.size, 2, none⟩ = some (.int .i64 b) := by rw [hW1]; show (w.alloc _).cell? _ = _; exact laid_cell _ _ _ _ rfl
  have HCM := Lib.hid (fun (x : Int) (hx : 0 ≤ x) => come_any W1 base (by omega) f vt st hWS x hx _ l hL (by omega))
  have H0 := Lib.hid (And.intro (same.mono hbase) (And.intro hK0 hWS))
  have HL := Lib.hid hL
  have HO := Lib.hid hok
  clear h o1 o2 o3 hu0 hC' hc0 hcj hcode same hWS hK0 hL hok hads hadb hA5 hii
  go_enter Tryd.func150, Tryd.ntmps150
  go_wp2_with fail
  go_region
  rw [← hW1]
  clear hW1 x0 x1 x2 x3 x4 xb e4 e6 eo lo ls
  go_wp2_with fail
  refine bodyPost_ret (results_none rfl _ _ _) rfl ?_
  exact ⟨rfl, H0.out.1, vt, H0.out.2.1, H0.out.2.2⟩


set_option maxRecDepth 100000 in
set_option maxHeartbeats 8000000 in
theorem from_13 (w : World) (base : Nat) (hbase : base ≤ w.heap.size) (f : Wf) (vt : Value) (st : St) (h : WS w base f vt st) (hlen : st.todo.length ≤ 900) (at_ : Nat) (hi : at_ < f.n) (code : List Ord) (hcode : rdOrd.CB base w f.A5 f.n code) (i : Ord) (hci : code[at_]? = some i) (l : List Tr) (hm : st.out[at_]? = some l) (h20 : l.length ≤ 20) (hop : i.op = 13) (hjmp : 0 ≤ i.a) :
    Calls Tryd.prog 150 #[.pointer (some ⟨f.wb, 0, none⟩), .int .i64 at_] w fun e w' => e = .returned (.tuple #[]) ∧ Below base w w' ∧ ∃ vt', Kept f w w' vt vt' ∧ WS w' base f vt' (comeF f.n st i.a l) := by
  obtain ⟨outv, o1, o2, o3⟩ := h.ho
  obtain ⟨u0, hu0⟩ : ∃ u0, outv[at_]? = some u0 := ⟨_, List.getElem?_eq_getElem (by omega)⟩
  have hsl := o3 at_ u0 l hu0 hm
  obtain ⟨A', c', hv', s1, s2, s3, hC'⟩ := hsl
  injection hv' with hv'
  subst hv'
  obtain ⟨ad, cs, hA5, hadb, hads, ⟨rfl, hii⟩, hc0, hcj⟩ := hcode.elem at_ i hci
  obtain ⟨op, a, b, c, line⟩ := i
  simp only [Ord.cells] at hop hjmp hc0 hcj ⊢
  have n28 : (op == 28) = false := by rw [hop]; rfl
  have n29 : (op == 29) = false := by rw [hop]; rfl
  have n13 : (op == 13) = true := by rw [hop]; rfl
  clear hop
  have x0 : w.cell? (ad.add (at_ * 5)) = some (.int .i64 op) := hc0 _ rfl
  have x1 : w.cell? ⟨(ad.add (at_ * 5)).block, (ad.add (at_ * 5)).off + 1, none⟩ = some (.int .i64 a) := hcj 0 _ rfl
  have x2 : w.cell? ⟨(ad.add (at_ * 5)).block, (ad.add (at_ * 5)).off + 2, none⟩ = some (.int .i64 b) := hcj 1 _ rfl
  have x3 : w.cell? ⟨(ad.add (at_ * 5)).block, (ad.add (at_ * 5)).off + 3, none⟩ = some (.int .i64 c) := hcj 2 _ rfl
  have x4 : w.cell? ⟨(ad.add (at_ * 5)).block, (ad.add (at_ * 5)).off + 4, none⟩ = some (.int .i64 line) := hcj 3 _ rfl
  have xb : (ad.add (at_ * 5)).block < w.heap.size := by rw [Rd.block_add]; exact hads
  have e4 : w.cell? ⟨f.wb, 4, none⟩ = some (.slice (some ad) f.n f.c5) := by rw [cell_at h.hw 4 rfl]; simp [hA5]
  have e6 : w.cell? ⟨f.wb, 6, none⟩ = some (.slice (some ⟨f.ob, 0, none⟩) f.n f.n) := cell_at h.hw 6 rfl
  have eo : w.cell? ⟨f.ob, at_, none⟩ = some (.slice A' l.length c') := cell_at o1 at_ (by simpa using hu0)
  have lw : f.wb < w.heap.size := (Array.getElem?_eq_some_iff.1 h.hw).1
  have lo : f.ob < w.heap.size := (Array.getElem?_eq_some_iff.1 o1).1
  have ls : f.sb < w.heap.size := (Array.getElem?_eq_some_iff.1 h.hs).1
  have hn := h.hn
  have hb1 : (at_ : Int) < (f.n : Int) := by omega
  obtain ⟨W1, hW1⟩ : ∃ W1, W1 = (w.alloc (.cells #[.int .i64 op, .int .i64 a, .int .i64 b, .int .i64 c, .int .i64 line] 189)).drew := ⟨_, rfl⟩
  have sz1 : W1.heap.size = w.heap.size + 1 := by rw [hW1]; simp
  have same : Below w.heap.size w W1 := by rw [hW1]; exact ((Below.refl _ _).alloc (Nat.le_refl _) _).drew
  have hWS := h.same (fun k hk => same.block k hk)
  have hok : f.ok vt w.heap.size := ⟨by omega, by omega, by omega, fun he => by have := (h.own.lt _ he.symm).2; omega⟩
  have hK0 : Kept f w W1 vt vt := Kept.same same
  have hL : SlK rdTry (f.ok vt) W1 l (.slice A' l.length c') := hK0.list ⟨A', c', rfl, s1, s2, s3, hC'⟩
  have y0 : W1.cell? ⟨w.heap.size, 0, none⟩ = some (.int .i64 op) := by rw [hW1]; show (w.alloc _).cell? _ = _; exact laid_cell _ _ _ _ rfl
  have y1 : W1.cell? ⟨w.heap.size, 1, none⟩ = some (.int .i64 a) := by rw [hW1]; show (w.alloc _).cell? _ = _; exact laid_cell _ _ _ _ rfl
  have y2 : W1.cell? ⟨w.heap.size, 2, none⟩ = some (.int .i64 b) := by rw [hW1]; show (w.alloc _).cell? _ = _; exact laid_cell _ _ _ _ rfl
  have HCM := Lib.hid (fun (x : Int) (hx : 0 ≤ x) => come_any W1 base (by omega) f vt st hWS x hx _ l hL (by omega))
  have H0 := Lib.hid (And.intro (same.mono hbase) (And.intro hK0 hWS))
  have HL := Lib.hid hL
  have HO := Lib.hid hok
  clear h o1 o2 o3 hu0 hC' hc0 hcj hcode same hWS hK0 hL hok hads hadb hA5 hii
  go_enter Tryd.func150, Tryd.ntmps150
  go_wp2_with fail
  go_region
  rw [← hW1]
  clear hW1 x0 x1 x2 x3 x4 xb e4 e6 eo lo ls
  go_wp2_with fail
  refine (HCM.out a hjmp).mono ?_
  rintro e w2 ⟨rfl, hb, vt2, hk, hws⟩
  have R := Lib.hid (And.intro (H0.out.1.trans hb) (And.intro (H0.out.2.1.trans hk) hws))
  clear hb hk hws
  go_wp2_with fail
  refine bodyPost_ret (results_none rfl _ _ _) rfl ?_
  exact ⟨rfl, R.out.1, vt2, R.out.2.1, R.out.2.2⟩


set_option maxRecDepth 100000 in
set_option maxHeartbeats 8000000 in
theorem from_14 (w : World) (base : Nat) (hbase : base ≤ w.heap.size) (f : Wf) (vt : Value) (st : St) (h : WS w base f vt st) (hlen : st.todo.length ≤ 900) (at_ : Nat) (hi : at_ < f.n) (code : List Ord) (hcode : rdOrd.CB base w f.A5 f.n code) (i : Ord) (hci : code[at_]? = some i) (l : List Tr) (hm : st.out[at_]? = some l) (h20 : l.length ≤ 20) (hop : i.op = 14) (hjmp : 0 ≤ i.a) :
    Calls Tryd.prog 150 #[.pointer (some ⟨f.wb, 0, none⟩), .int .i64 at_] w fun e w' => e = .returned (.tuple #[]) ∧ Below base w w' ∧ ∃ vt', Kept f w w' vt vt' ∧ WS w' base f vt' (comeF f.n st i.a l) := by
  obtain ⟨outv, o1, o2, o3⟩ := h.ho
  obtain ⟨u0, hu0⟩ : ∃ u0, outv[at_]? = some u0 := ⟨_, List.getElem?_eq_getElem (by omega)⟩
  have hsl := o3 at_ u0 l hu0 hm
  obtain ⟨A', c', hv', s1, s2, s3, hC'⟩ := hsl
  injection hv' with hv'
  subst hv'
  obtain ⟨ad, cs, hA5, hadb, hads, ⟨rfl, hii⟩, hc0, hcj⟩ := hcode.elem at_ i hci
  obtain ⟨op, a, b, c, line⟩ := i
  simp only [Ord.cells] at hop hjmp hc0 hcj ⊢
  have n28 : (op == 28) = false := by rw [hop]; rfl
  have n29 : (op == 29) = false := by rw [hop]; rfl
  have n13 : (op == 13) = false := by rw [hop]; rfl
  have n14 : (op == 14) = true := by rw [hop]; rfl
  clear hop
  have x0 : w.cell? (ad.add (at_ * 5)) = some (.int .i64 op) := hc0 _ rfl
  have x1 : w.cell? ⟨(ad.add (at_ * 5)).block, (ad.add (at_ * 5)).off + 1, none⟩ = some (.int .i64 a) := hcj 0 _ rfl
  have x2 : w.cell? ⟨(ad.add (at_ * 5)).block, (ad.add (at_ * 5)).off + 2, none⟩ = some (.int .i64 b) := hcj 1 _ rfl
  have x3 : w.cell? ⟨(ad.add (at_ * 5)).block, (ad.add (at_ * 5)).off + 3, none⟩ = some (.int .i64 c) := hcj 2 _ rfl
  have x4 : w.cell? ⟨(ad.add (at_ * 5)).block, (ad.add (at_ * 5)).off + 4, none⟩ = some (.int .i64 line) := hcj 3 _ rfl
  have xb : (ad.add (at_ * 5)).block < w.heap.size := by rw [Rd.block_add]; exact hads
  have e4 : w.cell? ⟨f.wb, 4, none⟩ = some (.slice (some ad) f.n f.c5) := by rw [cell_at h.hw 4 rfl]; simp [hA5]
  have e6 : w.cell? ⟨f.wb, 6, none⟩ = some (.slice (some ⟨f.ob, 0, none⟩) f.n f.n) := cell_at h.hw 6 rfl
  have eo : w.cell? ⟨f.ob, at_, none⟩ = some (.slice A' l.length c') := cell_at o1 at_ (by simpa using hu0)
  have lw : f.wb < w.heap.size := (Array.getElem?_eq_some_iff.1 h.hw).1
  have lo : f.ob < w.heap.size := (Array.getElem?_eq_some_iff.1 o1).1
  have ls : f.sb < w.heap.size := (Array.getElem?_eq_some_iff.1 h.hs).1
  have hn := h.hn
  have hb1 : (at_ : Int) < (f.n : Int) := by omega
  obtain ⟨W1, hW1⟩ : ∃ W1, W1 = (w.alloc (.cells #[.int .i64 op, .int .i64 a, .int .i64 b, .int .i64 c, .int .i64 line] 189)).drew := ⟨_, rfl⟩
  have sz1 : W1.heap.size = w.heap.size + 1 := by rw [hW1]; simp
  have same : Below w.heap.size w W1 := by rw [hW1]; exact ((Below.refl _ _).alloc (Nat.le_refl _) _).drew
  have hWS := h.same (fun k hk => same.block k hk)
  have hok : f.ok vt w.heap.size := ⟨by omega, by omega, by omega, fun he => by have := (h.own.lt _ he.symm).2; omega⟩
  have hK0 : Kept f w W1 vt vt := Kept.same same
  have hL : SlK rdTry (f.ok vt) W1 l (.slice A' l.length c') := hK0.list ⟨A', c', rfl, s1, s2, s3, hC'⟩
  have y0 : W1.cell? ⟨w.heap.size, 0, none⟩ = some (.int .i64 op) := by rw [hW1]; show (w.alloc _).cell? _ = _; exact laid_cell _ _ _ _ rfl
  have y1 : W1.cell? ⟨w.heap.size, 1, none⟩ = some (.int .i64 a) := by rw [hW1]; show (w.alloc _).cell? _ = _; exact laid_cell _ _ _ _ rfl
  have y2 : W1.cell? ⟨w.heap.size, 2, none⟩ = some (.int .i64 b) := by rw [hW1]; show (w.alloc _).cell? _ = _; exact laid_cell _ _ _ _ rfl
  have HCM := Lib.hid (fun (x : Int) (hx : 0 ≤ x) => come_any W1 base (by omega) f vt st hWS x hx _ l hL (by omega))
  have H0 := Lib.hid (And.intro (same.mono hbase) (And.intro hK0 hWS))
  have HL := Lib.hid hL
  have HO := Lib.hid hok
  clear h o1 o2 o3 hu0 hC' hc0 hcj hcode same hWS hK0 hL hok hads hadb hA5 hii
  go_enter Tryd.func150, Tryd.ntmps150
  go_wp2_with fail
  go_region
  rw [← hW1]
  clear hW1 x0 x1 x2 x3 x4 xb e4 e6 eo lo ls
  go_wp2_with fail
  refine (HCM.out a hjmp).mono ?_
  rintro e w2 ⟨rfl, hb, vt2, hk, hws⟩
  have R := Lib.hid (And.intro (H0.out.1.trans hb) (And.intro (H0.out.2.1.trans hk) hws))
  clear hb hk hws
  go_wp2_with fail
  refine bodyPost_ret (results_none rfl _ _ _) rfl ?_
  exact ⟨rfl, R.out.1, vt2, R.out.2.1, R.out.2.2⟩


set_option maxRecDepth 100000 in
set_option maxHeartbeats 8000000 in
theorem from_15 (w : World) (base : Nat) (hbase : base ≤ w.heap.size) (f : Wf) (vt : Value) (st : St) (h : WS w base f vt st) (hlen : st.todo.length ≤ 900) (at_ : Nat) (hi : at_ < f.n) (code : List Ord) (hcode : rdOrd.CB base w f.A5 f.n code) (i : Ord) (hci : code[at_]? = some i) (l : List Tr) (hm : st.out[at_]? = some l) (h20 : l.length ≤ 20) (hop : i.op = 15) (hjmp : 0 ≤ i.b) :
    Calls Tryd.prog 150 #[.pointer (some ⟨f.wb, 0, none⟩), .int .i64 at_] w fun e w' => e = .returned (.tuple #[]) ∧ Below base w w' ∧ ∃ vt', Kept f w w' vt vt' ∧ WS w' base f vt' (comeF f.n (comeF f.n st i.b l) ((at_ : Int) + 1) l) := by
  obtain ⟨outv, o1, o2, o3⟩ := h.ho
  obtain ⟨u0, hu0⟩ : ∃ u0, outv[at_]? = some u0 := ⟨_, List.getElem?_eq_getElem (by omega)⟩
  have hsl := o3 at_ u0 l hu0 hm
  obtain ⟨A', c', hv', s1, s2, s3, hC'⟩ := hsl
  injection hv' with hv'
  subst hv'
  obtain ⟨ad, cs, hA5, hadb, hads, ⟨rfl, hii⟩, hc0, hcj⟩ := hcode.elem at_ i hci
  obtain ⟨op, a, b, c, line⟩ := i
  simp only [Ord.cells] at hop hjmp hc0 hcj ⊢
  have n28 : (op == 28) = false := by rw [hop]; rfl
  have n29 : (op == 29) = false := by rw [hop]; rfl
  have n13 : (op == 13) = false := by rw [hop]; rfl
  have n14 : (op == 14) = false := by rw [hop]; rfl
  have n15 : (op == 15) = true := by rw [hop]; rfl
  clear hop
  have x0 : w.cell? (ad.add (at_ * 5)) = some (.int .i64 op) := hc0 _ rfl
  have x1 : w.cell? ⟨(ad.add (at_ * 5)).block, (ad.add (at_ * 5)).off + 1, none⟩ = some (.int .i64 a) := hcj 0 _ rfl
  have x2 : w.cell? ⟨(ad.add (at_ * 5)).block, (ad.add (at_ * 5)).off + 2, none⟩ = some (.int .i64 b) := hcj 1 _ rfl
  have x3 : w.cell? ⟨(ad.add (at_ * 5)).block, (ad.add (at_ * 5)).off + 3, none⟩ = some (.int .i64 c) := hcj 2 _ rfl
  have x4 : w.cell? ⟨(ad.add (at_ * 5)).block, (ad.add (at_ * 5)).off + 4, none⟩ = some (.int .i64 line) := hcj 3 _ rfl
  have xb : (ad.add (at_ * 5)).block < w.heap.size := by rw [Rd.block_add]; exact hads
  have e4 : w.cell? ⟨f.wb, 4, none⟩ = some (.slice (some ad) f.n f.c5) := by rw [cell_at h.hw 4 rfl]; simp [hA5]
  have e6 : w.cell? ⟨f.wb, 6, none⟩ = some (.slice (some ⟨f.ob, 0, none⟩) f.n f.n) := cell_at h.hw 6 rfl
  have eo : w.cell? ⟨f.ob, at_, none⟩ = some (.slice A' l.length c') := cell_at o1 at_ (by simpa using hu0)
  have lw : f.wb < w.heap.size := (Array.getElem?_eq_some_iff.1 h.hw).1
  have lo : f.ob < w.heap.size := (Array.getElem?_eq_some_iff.1 o1).1
  have ls : f.sb < w.heap.size := (Array.getElem?_eq_some_iff.1 h.hs).1
  have hn := h.hn
  have hb1 : (at_ : Int) < (f.n : Int) := by omega
  obtain ⟨W1, hW1⟩ : ∃ W1, W1 = (w.alloc (.cells #[.int .i64 op, .int .i64 a, .int .i64 b, .int .i64 c, .int .i64 line] 189)).drew := ⟨_, rfl⟩
  have sz1 : W1.heap.size = w.heap.size + 1 := by rw [hW1]; simp
  have same : Below w.heap.size w W1 := by rw [hW1]; exact ((Below.refl _ _).alloc (Nat.le_refl _) _).drew
  have hWS := h.same (fun k hk => same.block k hk)
  have hok : f.ok vt w.heap.size := ⟨by omega, by omega, by omega, fun he => by have := (h.own.lt _ he.symm).2; omega⟩
  have hK0 : Kept f w W1 vt vt := Kept.same same
  have hL : SlK rdTry (f.ok vt) W1 l (.slice A' l.length c') := hK0.list ⟨A', c', rfl, s1, s2, s3, hC'⟩
  have y0 : W1.cell? ⟨w.heap.size, 0, none⟩ = some (.int .i64 op) := by rw [hW1]; show (w.alloc _).cell? _ = _; exact laid_cell _ _ _ _ rfl
  have y1 : W1.cell? ⟨w.heap.size, 1, none⟩ = some (.int .i64 a) := by rw [hW1]; show (w.alloc _).cell? _ = _; exact laid_cell _ _ _ _ rfl
  have y2 : W1.cell? ⟨w.heap.size, 2, none⟩ = some (.int .i64 b) := by rw [hW1]; show (w.alloc _).cell? _ = _; exact laid_cell _ _ _ _ rfl
  have HCM := Lib.hid (fun (x : Int) (hx : 0 ≤ x) => come_any W1 base (by omega) f vt st hWS x hx _ l hL (by omega))
  have H0 := Lib.hid (And.intro (same.mono hbase) (And.intro hK0 hWS))
  have HL := Lib.hid hL
  have HO := Lib.hid hok
  clear h o1 o2 o3 hu0 hC' hc0 hcj hcode same hWS hK0 hL hok hads hadb hA5 hii
  go_enter Tryd.func150, Tryd.ntmps150
  go_wp2_with fail
  go_region
  rw [← hW1]
  clear hW1 x0 x1 x2 x3 x4 xb e4 e6 eo lo ls
  go_wp2_with fail
  refine (HCM.out b hjmp).mono ?_
  rintro e w2 ⟨rfl, hb, vt2, hk, hws⟩
  have hsz : w.heap.size + 1 ≤ w2.heap.size := by have := hk.size; omega
  have HC2 := Lib.hid (come_any w2 base (by omega) f vt2 _ hws ((at_ : Int) + 1) (by omega) _ l (hk.list HL.out) (by have := comeF_todo f.n st b l; omega))
  have R := Lib.hid (And.intro (H0.out.1.trans hb) (H0.out.2.1.trans hk))
  clear hb hk hws
  go_wp2_with fail
  refine (HC2.out).mono ?_
  rintro e w3 ⟨rfl, hb, vt3, hk, hws⟩
  have R2 := Lib.hid (And.intro (R.out.1.trans hb) (And.intro (R.out.2.trans hk) hws))
  clear hb hk hws
  go_wp2_with fail
  go_end0
  exact ⟨rfl, R2.out.1, vt3, R2.out.2.1, R2.out.2.2⟩


set_option maxRecDepth 100000 in
set_option maxHeartbeats 8000000 in
theorem from_else (w : World) (base : Nat) (hbase : base ≤ w.heap.size) (f : Wf) (vt : Value) (st : St) (h : WS w base f vt st) (hlen : st.todo.length ≤ 900) (at_ : Nat) (hi : at_ < f.n) (code : List Ord) (hcode : rdOrd.CB base w f.A5 f.n code) (i : Ord) (hci : code[at_]? = some i) (l : List Tr) (hm : st.out[at_]? = some l) (h20 : l.length ≤ 20) (hop : (i.op == 28) = false ∧ (i.op == 29) = false ∧ (i.op == 13) = false ∧ (i.op == 14) = false ∧ (i.op == 15) = false ∧ (i.op == 30) = false ∧ (i.op == 31) = false) :
    Calls Tryd.prog 150 #[.pointer (some ⟨f.wb, 0, none⟩), .int .i64 at_] w fun e w' => e = .returned (.tuple #[]) ∧ Below base w w' ∧ ∃ vt', Kept f w w' vt vt' ∧ WS w' base f vt' (comeF f.n st ((at_ : Int) + 1) l) := by
  obtain ⟨outv, o1, o2, o3⟩ := h.ho
  obtain ⟨u0, hu0⟩ : ∃ u0, outv[at_]? = some u0 := ⟨_, List.getElem?_eq_getElem (by omega)⟩
  have hsl := o3 at_ u0 l hu0 hm
  obtain ⟨A', c', hv', s1, s2, s3, hC'⟩ := hsl
  injection hv' with hv'
  subst hv'
  obtain ⟨ad, cs, hA5, hadb, hads, ⟨rfl, hii⟩, hc0, hcj⟩ := hcode.elem at_ i hci
  obtain ⟨op, a, b, c, line⟩ := i
  simp only [Ord.cells] at hop hc0 hcj ⊢
  obtain ⟨n28, n29, n13, n14, n15, n30, n31⟩ := hop
  have x0 : w.cell? (ad.add (at_ * 5)) = some (.int .i64 op) := hc0 _ rfl
  have x1 : w.cell? ⟨(ad.add (at_ * 5)).block, (ad.add (at_ * 5)).off + 1, none⟩ = some (.int .i64 a) := hcj 0 _ rfl
  have x2 : w.cell? ⟨(ad.add (at_ * 5)).block, (ad.add (at_ * 5)).off + 2, none⟩ = some (.int .i64 b) := hcj 1 _ rfl
  have x3 : w.cell? ⟨(ad.add (at_ * 5)).block, (ad.add (at_ * 5)).off + 3, none⟩ = some (.int .i64 c) := hcj 2 _ rfl
  have x4 : w.cell? ⟨(ad.add (at_ * 5)).block, (ad.add (at_ * 5)).off + 4, none⟩ = some (.int .i64 line) := hcj 3 _ rfl
  have xb : (ad.add (at_ * 5)).block < w.heap.size := by rw [Rd.block_add]; exact hads
  have e4 : w.cell? ⟨f.wb, 4, none⟩ = some (.slice (some ad) f.n f.c5) := by rw [cell_at h.hw 4 rfl]; simp [hA5]
  have e6 : w.cell? ⟨f.wb, 6, none⟩ = some (.slice (some ⟨f.ob, 0, none⟩) f.n f.n) := cell_at h.hw 6 rfl
  have eo : w.cell? ⟨f.ob, at_, none⟩ = some (.slice A' l.length c') := cell_at o1 at_ (by simpa using hu0)
  have lw : f.wb < w.heap.size := (Array.getElem?_eq_some_iff.1 h.hw).1
  have lo : f.ob < w.heap.size := (Array.getElem?_eq_some_iff.1 o1).1
  have ls : f.sb < w.heap.size := (Array.getElem?_eq_some_iff.1 h.hs).1
  have hn := h.hn
  have hb1 : (at_ : Int) < (f.n : Int) := by omega
  obtain ⟨W1, hW1⟩ : ∃ W1, W1 = (w.alloc (.cells #[.int .i64 op, .int .i64 a, .int .i64 b, .int .i64 c, .int .i64 line] 189)).drew := ⟨_, rfl⟩
  have sz1 : W1.heap.size = w.heap.size + 1 := by rw [hW1]; simp
  have same : Below w.heap.size w W1 := by rw [hW1]; exact ((Below.refl _ _).alloc (Nat.le_refl _) _).drew
  have hWS := h.same (fun k hk => same.block k hk)
  have hok : f.ok vt w.heap.size := ⟨by omega, by omega, by omega, fun he => by have := (h.own.lt _ he.symm).2; omega⟩
  have hK0 : Kept f w W1 vt vt := Kept.same same
  have hL : SlK rdTry (f.ok vt) W1 l (.slice A' l.length c') := hK0.list ⟨A', c', rfl, s1, s2, s3, hC'⟩
  have y0 : W1.cell? ⟨w.heap.size, 0, none⟩ = some (.int .i64 op) := by rw [hW1]; show (w.alloc _).cell? _ = _; exact laid_cell _ _ _ _ rfl
  have y1 : W1.cell? ⟨w.heap.size, 1, none⟩ = some (.int .i64 a) := by rw [hW1]; show (w.alloc _).cell? _ = _; exact laid_cell _ _ _ _ rfl
  have y2 : W1.cell? ⟨w.heap.size, 2, none⟩ = some (.int .i64 b) := by rw [hW1]; show (w.alloc _).cell? _ = _; exact laid_cell _ _ _ _ rfl
  have HCM := Lib.hid (fun (x : Int) (hx : 0 ≤ x) => come_any W1 base (by omega) f vt st hWS x hx _ l hL (by omega))
  have H0 := Lib.hid (And.intro (same.mono hbase) (And.intro hK0 hWS))
  have HL := Lib.hid hL
  have HO := Lib.hid hok
  clear h o1 o2 o3 hu0 hC' hc0 hcj hcode same hWS hK0 hL hok hads hadb hA5 hii
  go_enter Tryd.func150, Tryd.ntmps150
  go_wp2_with fail
  go_region
  rw [← hW1]
  clear hW1 x0 x1 x2 x3 x4 xb e4 e6 eo lo ls
  go_wp2_with fail
  refine (HCM.out ((at_ : Int) + 1) (by omega)).mono ?_
  rintro e w2 ⟨rfl, hb, vt2, hk, hws⟩
  have R := Lib.hid (And.intro (H0.out.1.trans hb) (And.intro (H0.out.2.1.trans hk) hws))
  clear hb hk hws
  go_wp2_with fail
  go_end0
  exact ⟨rfl, R.out.1, vt2, R.out.2.1, R.out.2.2⟩


set_option maxRecDepth 100000 in
set_option maxHeartbeats 8000000 in
theorem from_31a (w : World) (base : Nat) (hbase : base ≤ w.heap.size) (f : Wf) (vt : Value) (st : St) (h : WS w base f vt st) (hlen : st.todo.length ≤ 900) (at_ : Nat) (hi : at_ < f.n) (code : List Ord) (hcode : rdOrd.CB base w f.A5 f.n code) (i : Ord) (hci : code[at_]? = some i) (l : List Tr) (hm : st.out[at_]? = some l) (h20 : l.length ≤ 20) (hop : i.op = 31) (hl0 : l = []) :
    Calls Tryd.prog 150 #[.pointer (some ⟨f.wb, 0, none⟩), .int .i64 at_] w fun e w' => e = .returned (.tuple #[]) ∧ Below base w w' ∧ ∃ vt', Kept f w w' vt vt' ∧ WS w' base f vt' { st with bad := true } := by
  obtain ⟨outv, o1, o2, o3⟩ := h.ho
  obtain ⟨u0, hu0⟩ : ∃ u0, outv[at_]? = some u0 := ⟨_, List.getElem?_eq_getElem (by omega)⟩
  have hsl := o3 at_ u0 l hu0 hm
  obtain ⟨A', c', hv', s1, s2, s3, hC'⟩ := hsl
  injection hv' with hv'
  subst hv'
  obtain ⟨ad, cs, hA5, hadb, hads, ⟨rfl, hii⟩, hc0, hcj⟩ := hcode.elem at_ i hci
  obtain ⟨op, a, b, c, line⟩ := i
  simp only [Ord.cells] at hop hl0 hc0 hcj ⊢
  have n28 : (op == 28) = false := by rw [hop]; rfl
  have n29 : (op == 29) = false := by rw [hop]; rfl
  have n13 : (op == 13) = false := by rw [hop]; rfl
  have n14 : (op == 14) = false := by rw [hop]; rfl
  have n15 : (op == 15) = false := by rw [hop]; rfl
  have n30 : (op == 30) = false := by rw [hop]; rfl
  have n31 : (op == 31) = true := by rw [hop]; rfl
  clear hop
  have hl1 : ((l.length : Int) == 0) = true := by rw [hl0]; rfl
  have x0 : w.cell? (ad.add (at_ * 5)) = some (.int .i64 op) := hc0 _ rfl
  have x1 : w.cell? ⟨(ad.add (at_ * 5)).block, (ad.add (at_ * 5)).off + 1, none⟩ = some (.int .i64 a) := hcj 0 _ rfl
  have x2 : w.cell? ⟨(ad.add (at_ * 5)).block, (ad.add (at_ * 5)).off + 2, none⟩ = some (.int .i64 b) := hcj 1 _ rfl
  have x3 : w.cell? ⟨(ad.add (at_ * 5)).block, (ad.add (at_ * 5)).off + 3, none⟩ = some (.int .i64 c) := hcj 2 _ rfl
  have x4 : w.cell? ⟨(ad.add (at_ * 5)).block, (ad.add (at_ * 5)).off + 4, none⟩ = some (.int .i64 line) := hcj 3 _ rfl
  have xb : (ad.add (at_ * 5)).block < w.heap.size := by rw [Rd.block_add]; exact hads
  have e4 : w.cell? ⟨f.wb, 4, none⟩ = some (.slice (some ad) f.n f.c5) := by rw [cell_at h.hw 4 rfl]; simp [hA5]
  have e6 : w.cell? ⟨f.wb, 6, none⟩ = some (.slice (some ⟨f.ob, 0, none⟩) f.n f.n) := cell_at h.hw 6 rfl
  have eo : w.cell? ⟨f.ob, at_, none⟩ = some (.slice A' l.length c') := cell_at o1 at_ (by simpa using hu0)
  have lw : f.wb < w.heap.size := (Array.getElem?_eq_some_iff.1 h.hw).1
  have lo : f.ob < w.heap.size := (Array.getElem?_eq_some_iff.1 o1).1
  have ls : f.sb < w.heap.size := (Array.getElem?_eq_some_iff.1 h.hs).1
  have hn := h.hn
  have hb1 : (at_ : Int) < (f.n : Int) := by omega
  obtain ⟨W1, hW1⟩ : ∃ W1, W1 = (w.alloc (.cells #[.int .i64 op, .int .i64 a, .int .i64 b, .int .i64 c, .int .i64 line] 189)).drew := ⟨_, rfl⟩
  have sz1 : W1.heap.size = w.heap.size + 1 := by rw [hW1]; simp
  have same : Below w.heap.size w W1 := by rw [hW1]; exact ((Below.refl _ _).alloc (Nat.le_refl _) _).drew
  have hWS := h.same (fun k hk => same.block k hk)
  have hok : f.ok vt w.heap.size := ⟨by omega, by omega, by omega, fun he => by have := (h.own.lt _ he.symm).2; omega⟩
  have hK0 : Kept f w W1 vt vt := Kept.same same
  have hL : SlK rdTry (f.ok vt) W1 l (.slice A' l.length c') := hK0.list ⟨A', c', rfl, s1, s2, s3, hC'⟩
  have y0 : W1.cell? ⟨w.heap.size, 0, none⟩ = some (.int .i64 op) := by rw [hW1]; show (w.alloc _).cell? _ = _; exact laid_cell _ _ _ _ rfl
  have y1 : W1.cell? ⟨w.heap.size, 1, none⟩ = some (.int .i64 a) := by rw [hW1]; show (w.alloc _).cell? _ = _; exact laid_cell _ _ _ _ rfl
  have y2 : W1.cell? ⟨w.heap.size, 2, none⟩ = some (.int .i64 b) := by rw [hW1]; show (w.alloc _).cell? _ = _; exact laid_cell _ _ _ _ rfl
  have HCM := Lib.hid (fun (x : Int) (hx : 0 ≤ x) => come_any W1 base (by omega) f vt st hWS x hx _ l hL (by omega))
  have H0 := Lib.hid (And.intro (same.mono hbase) (And.intro hK0 hWS))
  have HL := Lib.hid hL
  have HO := Lib.hid hok
  clear h o1 o2 o3 hu0 hC' hc0 hcj hcode same hWS hK0 hL hok hads hadb hA5 hii
  go_enter Tryd.func150, Tryd.ntmps150
  go_wp2_with fail
  go_region
  rw [← hW1]
  clear hW1 x0 x1 x2 x3 x4 xb e4 e6 eo lo ls
  have e8 : W1.cell? ⟨f.wb, 8, none⟩ = some (.bool st.bad) := cell_at H0.out.2.2.hw 8 rfl
  have fr : W1.frozen? ⟨f.wb, 8, none⟩ = false := free_at H0.out.2.2.hw 8
  go_wp2_with fail
  refine bodyPost_ret (results_none rfl _ _ _) rfl ?_
  exact ⟨rfl, H0.out.1.trans (H0.out.2.2.below 8 _), vt, H0.out.2.1.trans (Kept.wbset f W1 8 _ vt), H0.out.2.2.setBad⟩


set_option maxRecDepth 100000 in
set_option maxHeartbeats 8000000 in
theorem from_31b (w : World) (base : Nat) (hbase : base ≤ w.heap.size) (f : Wf) (vt : Value) (st : St) (h : WS w base f vt st) (hlen : st.todo.length ≤ 900) (at_ : Nat) (hi : at_ < f.n) (code : List Ord) (hcode : rdOrd.CB base w f.A5 f.n code) (i : Ord) (hci : code[at_]? = some i) (l : List Tr) (hm : st.out[at_]? = some l) (h20 : l.length ≤ 20) (hop : i.op = 31) (hl0 : l ≠ []) :
    Calls Tryd.prog 150 #[.pointer (some ⟨f.wb, 0, none⟩), .int .i64 at_] w fun e w' => e = .returned (.tuple #[]) ∧ Below base w w' ∧ ∃ vt', Kept f w w' vt vt' ∧ WS w' base f vt' (comeF f.n st ((at_ : Int) + 1) l.dropLast) := by
  obtain ⟨outv, o1, o2, o3⟩ := h.ho
  obtain ⟨u0, hu0⟩ : ∃ u0, outv[at_]? = some u0 := ⟨_, List.getElem?_eq_getElem (by omega)⟩
  have hsl := o3 at_ u0 l hu0 hm
  obtain ⟨A', c', hv', s1, s2, s3, hC'⟩ := hsl
  injection hv' with hv'
  subst hv'
  obtain ⟨ad, cs, hA5, hadb, hads, ⟨rfl, hii⟩, hc0, hcj⟩ := hcode.elem at_ i hci
  obtain ⟨op, a, b, c, line⟩ := i
  simp only [Ord.cells] at hop hl0 hc0 hcj ⊢
  have n28 : (op == 28) = false := by rw [hop]; rfl
  have n29 : (op == 29) = false := by rw [hop]; rfl
  have n13 : (op == 13) = false := by rw [hop]; rfl
  have n14 : (op == 14) = false := by rw [hop]; rfl
  have n15 : (op == 15) = false := by rw [hop]; rfl
  have n30 : (op == 30) = false := by rw [hop]; rfl
  have n31 : (op == 31) = true := by rw [hop]; rfl
  clear hop
  have hlp : 0 < l.length := List.length_pos_iff.2 hl0
  have hl1 : ((l.length : Int) == 0) = false := by simp; exact hl0
  have hl2 : (l.length : Int) ≤ 20 := by omega
  have x0 : w.cell? (ad.add (at_ * 5)) = some (.int .i64 op) := hc0 _ rfl
  have x1 : w.cell? ⟨(ad.add (at_ * 5)).block, (ad.add (at_ * 5)).off + 1, none⟩ = some (.int .i64 a) := hcj 0 _ rfl
  have x2 : w.cell? ⟨(ad.add (at_ * 5)).block, (ad.add (at_ * 5)).off + 2, none⟩ = some (.int .i64 b) := hcj 1 _ rfl
  have x3 : w.cell? ⟨(ad.add (at_ * 5)).block, (ad.add (at_ * 5)).off + 3, none⟩ = some (.int .i64 c) := hcj 2 _ rfl
  have x4 : w.cell? ⟨(ad.add (at_ * 5)).block, (ad.add (at_ * 5)).off + 4, none⟩ = some (.int .i64 line) := hcj 3 _ rfl
  have xb : (ad.add (at_ * 5)).block < w.heap.size := by rw [Rd.block_add]; exact hads
  have e4 : w.cell? ⟨f.wb, 4, none⟩ = some (.slice (some ad) f.n f.c5) := by rw [cell_at h.hw 4 rfl]; simp [hA5]
  have e6 : w.cell? ⟨f.wb, 6, none⟩ = some (.slice (some ⟨f.ob, 0, none⟩) f.n f.n) := cell_at h.hw 6 rfl
  have eo : w.cell? ⟨f.ob, at_, none⟩ = some (.slice A' l.length c') := cell_at o1 at_ (by simpa using hu0)
  have lw : f.wb < w.heap.size := (Array.getElem?_eq_some_iff.1 h.hw).1
  have lo : f.ob < w.heap.size := (Array.getElem?_eq_some_iff.1 o1).1
  have ls : f.sb < w.heap.size := (Array.getElem?_eq_some_iff.1 h.hs).1
  have hn := h.hn
  have hb1 : (at_ : Int) < (f.n : Int) := by omega
  obtain ⟨W1, hW1⟩ : ∃ W1, W1 = (w.alloc (.cells #[.int .i64 op, .int .i64 a, .int .i64 b, .int .i64 c, .int .i64 line] 189)).drew := ⟨_, rfl⟩
  have sz1 : W1.heap.size = w.heap.size + 1 := by rw [hW1]; simp
  have same : Below w.heap.size w W1 := by rw [hW1]; exact ((Below.refl _ _).alloc (Nat.le_refl _) _).drew
  have hWS := h.same (fun k hk => same.block k hk)
  have hok : f.ok vt w.heap.size := ⟨by omega, by omega, by omega, fun he => by have := (h.own.lt _ he.symm).2; omega⟩
  have hK0 : Kept f w W1 vt vt := Kept.same same
  have hL : SlK rdTry (f.ok vt) W1 l (.slice A' l.length c') := hK0.list ⟨A', c', rfl, s1, s2, s3, hC'⟩
  have y0 : W1.cell? ⟨w.heap.size, 0, none⟩ = some (.int .i64 op) := by rw [hW1]; show (w.alloc _).cell? _ = _; exact laid_cell _ _ _ _ rfl
  have y1 : W1.cell? ⟨w.heap.size, 1, none⟩ = some (.int .i64 a) := by rw [hW1]; show (w.alloc _).cell? _ = _; exact laid_cell _ _ _ _ rfl
  have y2 : W1.cell? ⟨w.heap.size, 2, none⟩ = some (.int .i64 b) := by rw [hW1]; show (w.alloc _).cell? _ = _; exact laid_cell _ _ _ _ rfl
  have HCM := Lib.hid (fun (x : Int) (hx : 0 ≤ x) => come_any W1 base (by omega) f vt st hWS x hx _ l hL (by omega))
  have H0 := Lib.hid (And.intro (same.mono hbase) (And.intro hK0 hWS))
  have HL := Lib.hid hL
  have HO := Lib.hid hok
  clear h o1 o2 o3 hu0 hC' hc0 hcj hcode same hWS hK0 hL hok hads hadb hA5 hii
  go_enter Tryd.func150, Tryd.ntmps150
  go_wp2_with fail
  go_region
  rw [← hW1]
  clear hW1 x0 x1 x2 x3 x4 xb e4 e6 eo lo ls
  have HC3 : Hid (Calls Tryd.prog 149 #[.pointer (some ⟨f.wb, 0, none⟩), .int .i64 ((at_ : Int) + 1), .slice A' (l.length - 1) c'] W1 fun e w' => e = .returned (.tuple #[]) ∧ Below base W1 w' ∧ ∃ vt', Kept f W1 w' vt vt' ∧ WS w' base f vt' (comeF f.n st ((at_ : Int) + 1) l.dropLast)) := Lib.hid (come_any W1 base (by omega) f vt st H0.out.2.2 _ (by omega) _ l.dropLast (by
    obtain ⟨A1, c1, hq, g1, g2, g3, gC⟩ := HL.out
    injection hq with hq
    injection hq with q1 q2 q3
    subst q1 q3
    have hdl : l.dropLast.length = l.length - 1 := List.length_dropLast
    refine ⟨_, _, by rw [hdl], by rw [hdl]; omega, g2, g3, ?_⟩
    have := gC.take (l.length - 1) (by omega)
    rw [hdl, List.dropLast_eq_take]
    exact this) (by omega))
  go_wp2_with fail
  refine (HC3.out).mono ?_
  rintro e w2 ⟨rfl, hb, vt2, hk, hws⟩
  have R := Lib.hid (And.intro (H0.out.1.trans hb) (And.intro (H0.out.2.1.trans hk) hws))
  clear hb hk hws
  go_wp2_with fail
  go_end0
  exact ⟨rfl, R.out.1, vt2, R.out.2.1, R.out.2.2⟩

end Go.Proofs.YtefkifdhjabdiaaDoor
namespace Go.Proofs.YtefkifdhjabdiaaDoor
set_option linter.unusedVariables false
set_option linter.unusedSimpArgs false
open Go.RowKit

/-- At the operation in a region: an append whose run is known. -/
theorem wp_append_eq {P : Program} {o : Oper} {a : Act} {K : Act → World → Prop} {Q : Exit → Act → World → Prop} {w w1 : World} {v1 : Value} (s x : Operand) (t : TypeId)
    (ho : o.op = .call { callee := .builtin .append, args := #[s, x], argTypes := #[t, t] }) (v y : Value) (hs : a.eval s = v) (hx : a.eval x = y) (hr : (Builtin.append_ #[t, t] o.type #[v, y]).run P w = .ok v1 w1)
    (h : K (a.put o.dst v1) w1) : o.wp P a w K Q := by
  unfold Oper.wp execOp
  simp only [ho, resolve, invoke, builtin, Sem.run_bind, Sem.run_pure, Result.andThen_ok, List.map_toArray, List.map_cons, List.map_nil, hs, hx, hr]
  exact h
theorem C_litTry {w : World} (b : Nat) (t : TypeId) (fr : Nat × Nat) (x : Tr) (hx : Rd.IsInt x.reg ∧ Rd.IsInt x.at_) (hb : w.heap[b]? = some (.cells #[.int .i64 x.reg, .int .i64 x.at_] t fr)) : rdTry.C (· = b) w (some ⟨b, 0, none⟩) 1 [x] :=
  ⟨rfl, by omega, fun _ => ⟨_, rfl, rfl, (Array.getElem?_eq_some_iff.1 hb).1, fun i y hi => by
    match i, hi with
    | 0, hi =>
      simp at hi
      subst hi
      refine ⟨_, ⟨rfl, hx⟩, fun j u hj => ?_⟩
      have e : (⟨b, 0, none⟩ : Addr).add (0 * rdTry.sz + j) = ⟨b, j, none⟩ := by
        unfold Addr.add; split
        · rename_i h; simp at h; simp [h]
        · simp
      rw [e, World.cell?, hb]
      simpa [Tr.cells] using hj
    | n + 1, hi => simp at hi⟩⟩
/-- What the clone and the element come to. -/
theorem try_append (w : World) (base B : Nat) (v : Value) (l : List Tr) (x : Tr) (hx : Rd.IsInt x.reg ∧ Rd.IsInt x.at_) (blk : Nat) (hblk : w.heap[blk]? = some (.cells #[.int .i64 x.reg, .int .i64 x.at_] 226 (0, 0))) (ho : Own rdTry 226 (fun _ => False) w B v l) (hne : v.ownBlock ≠ some blk) (hB : B ≤ w.heap.size) (hl : l.length ≤ 1000) :
    ∃ v1 w1, (Builtin.append_ #[223, 223] 223 #[v, .slice (some ⟨blk, 0, none⟩) 1 1]).run Tryd.prog w = .ok v1 w1 ∧ Own rdTry 226 (fun _ => False) w1 B v1 (l ++ [x]) ∧ Below B w w1 := by
  obtain ⟨v1, w1, hr, ho1, hg, hat⟩ := (ho.mono (ok' := fun k => k = blk) (fun k hk => hk.elim)).append (t := 223) Tryd.underlying223 infoTry rfl (by decide) (by decide) (some ⟨blk, 0, none⟩) 1 1 (fun h => by cases h) (C_litTry blk _ _ x hx hblk) (fun k hk => ⟨hk, fun he => hne (by rw [← he, hk])⟩) (by omega) hB 223
  exact ⟨v1, w1, hr, ho1.any, (Below.refl _ _).grown hg hB (fun k hk => (ho.lt k hk).1)⟩

set_option maxRecDepth 100000 in
set_option maxHeartbeats 8000000 in
theorem from_30 (w : World) (base : Nat) (hbase : base ≤ w.heap.size) (f : Wf) (vt : Value) (st : St) (h : WS w base f vt st) (hlen : st.todo.length ≤ 900) (at_ : Nat) (hi : at_ < f.n) (code : List Ord) (hcode : rdOrd.CB base w f.A5 f.n code) (i : Ord) (hci : code[at_]? = some i) (l : List Tr) (hm : st.out[at_]? = some l) (h20 : l.length ≤ 20) (hop : i.op = 30) (hjmp : 0 ≤ i.b) :
    Calls Tryd.prog 150 #[.pointer (some ⟨f.wb, 0, none⟩), .int .i64 at_] w fun e w' => e = .returned (.tuple #[]) ∧ Below base w w' ∧ ∃ vt', Kept f w w' vt vt' ∧ WS w' base f vt' (comeF f.n (comeF f.n st i.b l) ((at_ : Int) + 1) (l ++ [⟨i.a, i.b⟩])) := by
  obtain ⟨outv, o1, o2, o3⟩ := h.ho
  obtain ⟨u0, hu0⟩ : ∃ u0, outv[at_]? = some u0 := ⟨_, List.getElem?_eq_getElem (by omega)⟩
  have hsl := o3 at_ u0 l hu0 hm
  obtain ⟨A', c', hv', s1, s2, s3, hC'⟩ := hsl
  injection hv' with hv'
  subst hv'
  obtain ⟨ad, cs, hA5, hadb, hads, ⟨rfl, hii⟩, hc0, hcj⟩ := hcode.elem at_ i hci
  obtain ⟨op, a, b, c, line⟩ := i
  simp only [Ord.cells] at hop hjmp hc0 hcj ⊢
  have n28 : (op == 28) = false := by rw [hop]; rfl
  have n29 : (op == 29) = false := by rw [hop]; rfl
  have n13 : (op == 13) = false := by rw [hop]; rfl
  have n14 : (op == 14) = false := by rw [hop]; rfl
  have n15 : (op == 15) = false := by rw [hop]; rfl
  have n30 : (op == 30) = true := by rw [hop]; rfl
  clear hop
  have x0 : w.cell? (ad.add (at_ * 5)) = some (.int .i64 op) := hc0 _ rfl
  have x1 : w.cell? ⟨(ad.add (at_ * 5)).block, (ad.add (at_ * 5)).off + 1, none⟩ = some (.int .i64 a) := hcj 0 _ rfl
  have x2 : w.cell? ⟨(ad.add (at_ * 5)).block, (ad.add (at_ * 5)).off + 2, none⟩ = some (.int .i64 b) := hcj 1 _ rfl
  have x3 : w.cell? ⟨(ad.add (at_ * 5)).block, (ad.add (at_ * 5)).off + 3, none⟩ = some (.int .i64 c) := hcj 2 _ rfl
  have x4 : w.cell? ⟨(ad.add (at_ * 5)).block, (ad.add (at_ * 5)).off + 4, none⟩ = some (.int .i64 line) := hcj 3 _ rfl
  have xb : (ad.add (at_ * 5)).block < w.heap.size := by rw [Rd.block_add]; exact hads
  have e4 : w.cell? ⟨f.wb, 4, none⟩ = some (.slice (some ad) f.n f.c5) := by rw [cell_at h.hw 4 rfl]; simp [hA5]
  have e6 : w.cell? ⟨f.wb, 6, none⟩ = some (.slice (some ⟨f.ob, 0, none⟩) f.n f.n) := cell_at h.hw 6 rfl
  have eo : w.cell? ⟨f.ob, at_, none⟩ = some (.slice A' l.length c') := cell_at o1 at_ (by simpa using hu0)
  have lw : f.wb < w.heap.size := (Array.getElem?_eq_some_iff.1 h.hw).1
  have lo : f.ob < w.heap.size := (Array.getElem?_eq_some_iff.1 o1).1
  have ls : f.sb < w.heap.size := (Array.getElem?_eq_some_iff.1 h.hs).1
  have hn := h.hn
  have hb1 : (at_ : Int) < (f.n : Int) := by omega
  obtain ⟨W1, hW1⟩ : ∃ W1, W1 = (w.alloc (.cells #[.int .i64 op, .int .i64 a, .int .i64 b, .int .i64 c, .int .i64 line] 189)).drew := ⟨_, rfl⟩
  have sz1 : W1.heap.size = w.heap.size + 1 := by rw [hW1]; simp
  have same : Below w.heap.size w W1 := by rw [hW1]; exact ((Below.refl _ _).alloc (Nat.le_refl _) _).drew
  have hWS := h.same (fun k hk => same.block k hk)
  have hok : f.ok vt w.heap.size := ⟨by omega, by omega, by omega, fun he => by have := (h.own.lt _ he.symm).2; omega⟩
  have hK0 : Kept f w W1 vt vt := Kept.same same
  have hL : SlK rdTry (f.ok vt) W1 l (.slice A' l.length c') := hK0.list ⟨A', c', rfl, s1, s2, s3, hC'⟩
  have y0 : W1.cell? ⟨w.heap.size, 0, none⟩ = some (.int .i64 op) := by rw [hW1]; show (w.alloc _).cell? _ = _; exact laid_cell _ _ _ _ rfl
  have y1 : W1.cell? ⟨w.heap.size, 1, none⟩ = some (.int .i64 a) := by rw [hW1]; show (w.alloc _).cell? _ = _; exact laid_cell _ _ _ _ rfl
  have y2 : W1.cell? ⟨w.heap.size, 2, none⟩ = some (.int .i64 b) := by rw [hW1]; show (w.alloc _).cell? _ = _; exact laid_cell _ _ _ _ rfl
  have HCM := Lib.hid (fun (x : Int) (hx : 0 ≤ x) => come_any W1 base (by omega) f vt st hWS x hx _ l hL (by omega))
  have H0 := Lib.hid (And.intro (same.mono hbase) (And.intro hK0 hWS))
  have HL := Lib.hid hL
  have HO := Lib.hid hok
  have hab : Rd.IsInt a ∧ Rd.IsInt b := ⟨hii.2.1, hii.2.2.1⟩
  clear h o1 o2 o3 hu0 hC' hc0 hcj hcode same hWS hK0 hL hok hads hadb hA5 hii
  go_enter Tryd.func150, Tryd.ntmps150
  go_wp2_with fail
  go_region
  rw [← hW1]
  clear hW1 x0 x1 x2 x3 x4 xb e4 e6 eo lo ls
  go_wp2_with fail
  refine (HCM.out b hjmp).mono ?_
  rintro e w2 ⟨rfl, hb, vt2, hk, hws⟩
  have hsz : w.heap.size + 1 ≤ w2.heap.size := by have := hk.size; omega
  have hbase2 : base ≤ w2.heap.size := by omega
  have hbk := hk.block w.heap.size (by omega) HO.out
  have q1 : w2.cell? ⟨w.heap.size, 1, none⟩ = some (.int .i64 a) := by rw [World.cell?_of_block (w := W1) (by exact hbk)]; exact y1
  have q2 : w2.cell? ⟨w.heap.size, 2, none⟩ = some (.int .i64 b) := by rw [World.cell?_of_block (w := W1) (by exact hbk)]; exact y2
  clear hbk
  have hL2 := hk.list HL.out
  have lw2 : f.wb < w2.heap.size := (Array.getElem?_eq_some_iff.1 hws.hw).1
  have ls2 : f.sb < w2.heap.size := (Array.getElem?_eq_some_iff.1 hws.hs).1
  have lo2 : f.ob < w2.heap.size := by obtain ⟨outw, ow1, _⟩ := hws.ho; exact (Array.getElem?_eq_some_iff.1 ow1).1
  have HWS := Lib.hid (fun (w' : World) (h' : Below w2.heap.size w2 w') => hws.same (fun k hk => h'.block k hk))
  have HLL0 := Lib.hid (fun (w' : World) (h' : Below w2.heap.size w2 w') => (Rd.slice rdTry).move (fun k hk _ => h'.block k hk.2) ((Rd.slice rdTry).bound hL2))
  have HLI : Hid (∀ (w' : World) (v : Value), Own rdTry 226 (fun _ => False) w' w2.heap.size v (l ++ [⟨a, b⟩]) → SlK rdTry (f.ok vt2) w' (l ++ [⟨a, b⟩]) v) := Lib.hid (fun w' v h' => (Rd.slice rdTry).mono (fun k hk => by
    rcases hk with hk | hk
    · exact hk.elim
    · have := (h'.lt k hk).1
      exact ⟨by omega, by omega, by omega, fun he => by have := (hws.own.lt k he.symm).2; omega⟩) (h'.reads (by decide)))
  have HS : Hid (∀ w' : World, Below w2.heap.size w2 w' → w'.cell? ⟨w.heap.size, 1, none⟩ = some (.int .i64 a) ∧ w'.cell? ⟨w.heap.size, 2, none⟩ = some (.int .i64 b) ∧ Below w2.heap.size w2 w') := Lib.hid (fun w' h' => ⟨(h'.cell (p := ⟨w.heap.size, 1, none⟩) (by simp; omega)).trans q1, (h'.cell (p := ⟨w.heap.size, 2, none⟩) (by simp; omega)).trans q2, h'⟩)
  have HS2 : Hid (∀ w' : World, w'.cell? ⟨w.heap.size, 1, none⟩ = some (.int .i64 a) ∧ w'.cell? ⟨w.heap.size, 2, none⟩ = some (.int .i64 b) ∧ Below w2.heap.size w2 w' → Below w2.heap.size w2 w') := Lib.hid (fun w' h' => h'.2.2)
  have HLL : Hid (∀ w' : World, w'.cell? ⟨w.heap.size, 1, none⟩ = some (.int .i64 a) ∧ w'.cell? ⟨w.heap.size, 2, none⟩ = some (.int .i64 b) ∧ Below w2.heap.size w2 w' → SlK rdTry (fun k => f.ok vt2 k ∧ k < w2.heap.size) w' l (.slice A' l.length c')) := Lib.hid (fun w' h' => HLL0.out w' h'.2.2)
  have R := Lib.hid (And.intro (H0.out.1.trans hb) (H0.out.2.1.trans hk))
  have hblt : w.heap.size < w2.heap.size := by omega
  clear hb hk hws hL2 lw2 ls2 lo2 HLL0
  go_wp2_with fail
  refine wp_region_held_drew (S := fun w' => w'.cell? ⟨w.heap.size, 1, none⟩ = some (.int .i64 a) ∧ w'.cell? ⟨w.heap.size, 2, none⟩ = some (.int .i64 b) ∧ Below w2.heap.size w2 w') (by kernel_rfl) (HS.out _ (Below.refl _ _).drew) (fun hHeld => ?_)
  try dsimp only
  generalize w2.drew = w4 at hHeld ⊢
  refine wpAnyH_take (i := 0) (oi := ?oiz1) (v := ?vvz1) ?hiz1 (by kernel_rfl) (by kernel_rfl) (by kernel_rfl) ?hQz1 (Or.inl ⟨?hwz1, ?hyz1⟩) (by assumption) ?hhz1
  case hiz1 => simp only [List.getElem?_toArray, List.getElem?_cons_succ, List.getElem?_cons_zero]; rfl
  case hwz1 => rfl
  case hyz1 => (intro w hSw; (try dsimp only at hSw); go_simp; (try with_reducible rfl))
  case hQz1 => exact fun _ _ _ h => h
  try simp only [Act.put, List.setIfInBounds_toArray, List.set_cons_zero, List.set_cons_succ]
  refine wpAnyH_take (i := 2) (oi := ?oiz2) (v := ?vvz2) ?hiz2 (by kernel_rfl) (by kernel_rfl) (by kernel_rfl) ?hQz2 (Or.inl ⟨?hwz2, ?hyz2⟩) (by assumption) ?hhz2
  case hiz2 => simp only [List.getElem?_toArray, List.getElem?_cons_succ, List.getElem?_cons_zero]; rfl
  case hwz2 => rfl
  case hyz2 => (intro w hSw; (try dsimp only at hSw); go_simp; (try with_reducible rfl))
  case hQz2 => exact fun _ _ _ h => h
  try simp only [Act.put, List.setIfInBounds_toArray, List.set_cons_zero, List.set_cons_succ]
  refine wpAnyH_take (i := 3) (oi := ?oiz3) (v := ?vvz3) ?hiz3 (by kernel_rfl) (by kernel_rfl) (by kernel_rfl) ?hQz3 (Or.inl ⟨?hwz3, ?hyz3⟩) (by assumption) ?hhz3
  case hiz3 => simp only [List.getElem?_toArray, List.getElem?_cons_succ, List.getElem?_cons_zero]; rfl
  case hwz3 => rfl
  case hyz3 => (intro w hSw; (try dsimp only at hSw); go_simp; (try with_reducible rfl))
  case hQz3 => exact fun _ _ _ h => h
  try simp only [Act.put, List.setIfInBounds_toArray, List.set_cons_zero, List.set_cons_succ]
  refine wpAnyH_take (i := 4) (oi := ?oiz4) (v := ?vvz4) ?hiz4 (by kernel_rfl) (by kernel_rfl) (by kernel_rfl) ?hQz4 (Or.inl ⟨?hwz4, ?hyz4⟩) (by assumption) ?hhz4
  case hiz4 => simp only [List.getElem?_toArray, List.getElem?_cons_succ, List.getElem?_cons_zero]; rfl
  case hwz4 => rfl
  case hyz4 => (intro w hSw; (try dsimp only at hSw); go_simp; (try with_reducible rfl))
  case hQz4 => exact fun _ _ _ h => h
  try simp only [Act.put, List.setIfInBounds_toArray, List.set_cons_zero, List.set_cons_succ]
  refine wpAnyH_take (i := 5) (oi := ?oiz5) (v := ?vvz5) ?hiz5 (by kernel_rfl) (by kernel_rfl) (by kernel_rfl) ?hQz5 (Or.inl ⟨?hwz5, ?hyz5⟩) (by assumption) ?hhz5
  case hiz5 => simp only [List.getElem?_toArray, List.getElem?_cons_succ, List.getElem?_cons_zero]; rfl
  case hwz5 => rfl
  case hyz5 => (intro w hSw; (try dsimp only at hSw); go_simp; (try with_reducible rfl))
  case hQz5 => exact fun _ _ _ h => h
  try simp only [Act.put, List.setIfInBounds_toArray, List.set_cons_zero, List.set_cons_succ]
  refine wpAnyH_take (i := 6) (oi := ?oiz6) (v := ?vvz6) ?hiz6 (by kernel_rfl) (by kernel_rfl) (by kernel_rfl) ?hQz6 (Or.inl ⟨?hwz6, ?hyz6⟩) (by assumption) ?hhz6
  case hiz6 => simp only [List.getElem?_toArray, List.getElem?_cons_succ, List.getElem?_cons_zero]; rfl
  case hwz6 => rfl
  case hyz6 => (intro w hSw; (try dsimp only at hSw); go_simp; (try with_reducible rfl))
  case hQz6 => exact fun _ _ _ h => h
  try simp only [Act.put, List.setIfInBounds_toArray, List.set_cons_zero, List.set_cons_succ]
  refine wpAnyH_ready (rs := [1, 7]) (by kernel_rfl) (by simp) ?_
  refine AllReadyH.cons (o := ?oiz7) ?hiz7 (fun K hK => ?hhz7) ?rest1
  case hiz7 => simp only [List.getElem?_toArray, List.getElem?_cons_succ, List.getElem?_cons_zero]; rfl
  · skip
    go_simp
    go_at_call 165
    refine (cloneTry_any _ w4 _ l (HLL.out w4 (by assumption)) (by omega)).mono ?_
    rintro e w5 ⟨v1, rfl, hbC, hownC⟩
    go_wp2_with fail
    refine hK.out _ _ ?_ (fun hHeld1 => ?_)
    · exact HS.out w5 ((HS2.out w4 (by assumption)).trans (hbC.mono (HS2.out w4 (by assumption)).size))
    clear hK K
    try simp only [Act.put, List.setIfInBounds_toArray, List.set_cons_zero, List.set_cons_succ]
    refine wpAnyH_ready (rs := [7]) (by kernel_rfl) (by simp) ?_
    refine AllReadyH.cons (o := ?oiz8) ?hiz8 (fun K hK => ?hhz8) AllReadyH.nil
    case hiz8 => simp only [List.getElem?_toArray, List.getElem?_cons_succ, List.getElem?_cons_zero]; rfl
    go_simp
    obtain ⟨w6, hWw6⟩ : ∃ w6, w6 = w5.alloc (.cells #[.int .i64 a, .int .i64 b] 226) := ⟨_, rfl⟩
    rw [← hWw6]
    have HWw6 := Lib.hid hWw6
    clear hWw6
    refine hK.out _ _ ?_ (fun hHeld2 => ?_)
    · exact HS.out w6 (by rw [HWw6.out]; exact (HS2.out w5 (by assumption)).alloc (HS2.out w5 (by assumption)).size _)
    clear hK K
    try simp only [Act.put, List.setIfInBounds_toArray, List.set_cons_zero, List.set_cons_succ]
    have hB5 := HS2.out w5 hHeld1
    obtain ⟨v9, w9, hrA, hoA, hbA'⟩ := try_append w6 base w2.heap.size v1 l ⟨a, b⟩ hab w5.heap.size (by rw [HWw6.out]; exact heap_alloc_new _ _) (((hownC.lower (HS2.out w4 hHeld).size).alloc (.cells #[.int .i64 a, .int .i64 b] 226)) |> fun h => by rw [HWw6.out]; exact h) (fun he => by have := (hownC.lt _ he).2; omega) (HS2.out w6 hHeld2).size (by omega)
    have hbA : Below w2.heap.size w2 w9 := (HS2.out w6 hHeld2).trans hbA'
    clear hbA' hB5 hbC hownC
    refine wpAnyH_ready (rs := [8]) (by kernel_rfl) (by simp) ?_
    refine AllReadyH.cons (o := ?oiz9) ?hiz9 (fun K hK => ?hhz9) AllReadyH.nil
    case hiz9 => simp only [List.getElem?_toArray, List.getElem?_cons_succ, List.getElem?_cons_zero]; rfl
    rw [if_pos (by rfl)]
    refine wp_append_eq _ _ _ rfl _ _ rfl rfl hrA ?_
    refine hK.out _ _ ?_ (fun hHeld9 => ?_)
    · exact HS.out _ hbA
    clear hK K
    try simp only [Act.put, List.setIfInBounds_toArray, List.set_cons_zero, List.set_cons_succ]
    refine wpAnyH_take (i := 9) (oi := ?oiz10) (v := ?vvz10) ?hiz10 (by kernel_rfl) (by kernel_rfl) (by kernel_rfl) ?hQz10 (Or.inl ⟨?hwz10, ?hyz10⟩) (by assumption) ?hhz10
    case hiz10 => simp only [List.getElem?_toArray, List.getElem?_cons_succ, List.getElem?_cons_zero]; rfl
    case hwz10 => rfl
    case hyz10 => (intro w hSw; (try dsimp only at hSw); go_simp; (try with_reducible rfl))
    case hQz10 => exact fun _ _ _ h => h
    try simp only [Act.put, List.setIfInBounds_toArray, List.set_cons_zero, List.set_cons_succ]
    refine wpAnyH_done (by kernel_rfl) ?_ _
    have HC3 := Lib.hid (come_any w9 base (by have := hbA.size; omega) f vt2 _ (HWS.out w9 hbA) ((at_ : Int) + 1) (by omega) v9 (l ++ [⟨a, b⟩]) (HLI.out w9 v9 hoA) (by have := comeF_todo f.n st b l; omega))
    have R3 := Lib.hid (And.intro (R.out.1.trans (hbA.mono hbase2)) (R.out.2.trans (Kept.same hbA)))
    clear hrA hoA hbA hHeld9 hHeld
    go_wp2_with fail
    refine (HC3.out).mono ?_
    rintro e w3 ⟨rfl, hb, vt3, hk, hws⟩
    have R2 := Lib.hid (And.intro (R3.out.1.trans hb) (And.intro (R3.out.2.trans hk) hws))
    clear hb hk hws
    go_wp2_with fail
    go_end0
    exact ⟨rfl, R2.out.1, vt3, R2.out.2.1, R2.out.2.2⟩
  case rest1 =>
    refine AllReadyH.cons (o := ?oiz11) ?hiz11 (fun K hK => ?hhz11) AllReadyH.nil
    case hiz11 => simp only [List.getElem?_toArray, List.getElem?_cons_succ, List.getElem?_cons_zero]; rfl
    go_simp
    obtain ⟨w5, hWw5⟩ : ∃ w5, w5 = w4.alloc (.cells #[.int .i64 a, .int .i64 b] 226) := ⟨_, rfl⟩
    rw [← hWw5]
    have HWw5 := Lib.hid hWw5
    clear hWw5
    refine hK.out _ _ ?_ (fun hHeld1 => ?_)
    · exact HS.out w5 (by rw [HWw5.out]; exact (HS2.out w4 (by assumption)).alloc (HS2.out w4 (by assumption)).size _)
    clear hK K
    try simp only [Act.put, List.setIfInBounds_toArray, List.set_cons_zero, List.set_cons_succ]
    refine wpAnyH_ready (rs := [1]) (by kernel_rfl) (by simp) ?_
    refine AllReadyH.cons (o := ?oiz12) ?hiz12 (fun K hK => ?hhz12) AllReadyH.nil
    case hiz12 => simp only [List.getElem?_toArray, List.getElem?_cons_succ, List.getElem?_cons_zero]; rfl
    go_simp
    go_at_call 165
    refine (cloneTry_any _ w5 _ l (HLL.out w5 (by assumption)) (by omega)).mono ?_
    rintro e w6 ⟨v1, rfl, hbC, hownC⟩
    go_wp2_with fail
    refine hK.out _ _ ?_ (fun hHeld2 => ?_)
    · exact HS.out w6 ((HS2.out w5 (by assumption)).trans (hbC.mono (HS2.out w5 (by assumption)).size))
    clear hK K
    try simp only [Act.put, List.setIfInBounds_toArray, List.set_cons_zero, List.set_cons_succ]
    have hB5 := HS2.out w5 hHeld1
    obtain ⟨v9, w9, hrA, hoA, hbA'⟩ := try_append w6 base w2.heap.size v1 l ⟨a, b⟩ hab w4.heap.size (by rw [hbC.block _ (by rw [HWw5.out]; simp), HWw5.out]; exact heap_alloc_new _ _) (hownC.lower hB5.size) (fun he => by have := (hownC.lt _ he).1; rw [HWw5.out] at this; simp at this; omega) (HS2.out w6 hHeld2).size (by omega)
    have hbA : Below w2.heap.size w2 w9 := (HS2.out w6 hHeld2).trans hbA'
    clear hbA' hB5 hbC hownC
    refine wpAnyH_ready (rs := [8]) (by kernel_rfl) (by simp) ?_
    refine AllReadyH.cons (o := ?oiz13) ?hiz13 (fun K hK => ?hhz13) AllReadyH.nil
    case hiz13 => simp only [List.getElem?_toArray, List.getElem?_cons_succ, List.getElem?_cons_zero]; rfl
    rw [if_pos (by rfl)]
    refine wp_append_eq _ _ _ rfl _ _ rfl rfl hrA ?_
    refine hK.out _ _ ?_ (fun hHeld9 => ?_)
    · exact HS.out _ hbA
    clear hK K
    try simp only [Act.put, List.setIfInBounds_toArray, List.set_cons_zero, List.set_cons_succ]
    refine wpAnyH_take (i := 9) (oi := ?oiz14) (v := ?vvz14) ?hiz14 (by kernel_rfl) (by kernel_rfl) (by kernel_rfl) ?hQz14 (Or.inl ⟨?hwz14, ?hyz14⟩) (by assumption) ?hhz14
    case hiz14 => simp only [List.getElem?_toArray, List.getElem?_cons_succ, List.getElem?_cons_zero]; rfl
    case hwz14 => rfl
    case hyz14 => (intro w hSw; (try dsimp only at hSw); go_simp; (try with_reducible rfl))
    case hQz14 => exact fun _ _ _ h => h
    try simp only [Act.put, List.setIfInBounds_toArray, List.set_cons_zero, List.set_cons_succ]
    refine wpAnyH_done (by kernel_rfl) ?_ _
    have HC3 := Lib.hid (come_any w9 base (by have := hbA.size; omega) f vt2 _ (HWS.out w9 hbA) ((at_ : Int) + 1) (by omega) v9 (l ++ [⟨a, b⟩]) (HLI.out w9 v9 hoA) (by have := comeF_todo f.n st b l; omega))
    have R3 := Lib.hid (And.intro (R.out.1.trans (hbA.mono hbase2)) (R.out.2.trans (Kept.same hbA)))
    clear hrA hoA hbA hHeld9 hHeld
    go_wp2_with fail
    refine (HC3.out).mono ?_
    rintro e w3 ⟨rfl, hb, vt3, hk, hws⟩
    have R2 := Lib.hid (And.intro (R3.out.1.trans hb) (And.intro (R3.out.2.trans hk) hws))
    clear hb hk hws
    go_wp2_with fail
    go_end0
    exact ⟨rfl, R2.out.1, vt3, R2.out.2.1, R2.out.2.2⟩
end Go.Proofs.YtefkifdhjabdiaaDoor
namespace Go.Proofs.YtefkifdhjabdiaaDoor
set_option linter.unusedVariables false
set_option linter.unusedSimpArgs false
open Go.RowKit

/-- The ways out of an order lead nowhere below 0. -/
def jumpsOk (code : List Ord) : Prop := ∀ i ∈ code, ((i.op = 13 ∨ i.op = 14) → 0 ≤ i.a) ∧ ((i.op = 15 ∨ i.op = 30) → 0 ≤ i.b)

theorem from_any (w : World) (base : Nat) (hbase : base ≤ w.heap.size) (f : Wf) (vt : Value) (st : St) (h : WS w base f vt st) (hlen : st.todo.length ≤ 900) (at_ : Nat) (hi : at_ < f.n) (code : List Ord) (hcode : rdOrd.CB base w f.A5 f.n code) (hj : jumpsOk code) (h20 : ∀ l ∈ st.out, l.length ≤ 20) :
    Calls Tryd.prog 150 #[.pointer (some ⟨f.wb, 0, none⟩), .int .i64 at_] w fun e w' => e = .returned (.tuple #[]) ∧ Below base w w' ∧ ∃ vt', Kept f w w' vt vt' ∧ WS w' base f vt' (fromF f.n code st at_) := by
  obtain ⟨i, hci⟩ : ∃ i, code[at_]? = some i := ⟨_, List.getElem?_eq_getElem (by have := hcode.1; omega)⟩
  obtain ⟨l, hm⟩ : ∃ l, st.out[at_]? = some l := ⟨_, List.getElem?_eq_getElem (by have := h.lo; omega)⟩
  have hl := h20 l (List.mem_of_getElem? hm)
  obtain ⟨j1, j2⟩ := hj i (List.mem_of_getElem? hci)
  unfold fromF
  rw [hci, hm]
  simp only
  by_cases o1 : i.op = 28
  · rw [if_pos (.inl o1)]; exact from_28 w base hbase f vt st h hlen at_ hi code hcode i hci l hm hl o1
  by_cases o2 : i.op = 29
  · rw [if_pos (.inr o2)]; exact from_29 w base hbase f vt st h hlen at_ hi code hcode i hci l hm hl o2
  rw [if_neg (by omega)]
  by_cases o3 : i.op = 13
  · rw [if_pos (.inl o3)]; exact from_13 w base hbase f vt st h hlen at_ hi code hcode i hci l hm hl o3 (j1 (.inl o3))
  by_cases o4 : i.op = 14
  · rw [if_pos (.inr o4)]; exact from_14 w base hbase f vt st h hlen at_ hi code hcode i hci l hm hl o4 (j1 (.inr o4))
  rw [if_neg (by omega)]
  by_cases o5 : i.op = 15
  · rw [if_pos o5]; exact from_15 w base hbase f vt st h hlen at_ hi code hcode i hci l hm hl o5 (j2 (.inl o5))
  rw [if_neg o5]
  by_cases o6 : i.op = 30
  · rw [if_pos o6]; exact from_30 w base hbase f vt st h hlen at_ hi code hcode i hci l hm hl o6 (j2 (.inr o6))
  rw [if_neg o6]
  by_cases o7 : i.op = 31
  · rw [if_pos o7]
    by_cases hl0 : l = []
    · rw [if_pos hl0]; exact from_31a w base hbase f vt st h hlen at_ hi code hcode i hci l hm hl o7 hl0
    · rw [if_neg hl0]; exact from_31b w base hbase f vt st h hlen at_ hi code hcode i hci l hm hl o7 hl0
  rw [if_neg o7]
  exact from_else w base hbase f vt st h hlen at_ hi code hcode i hci l hm hl ⟨by simpa using o1, by simpa using o2, by simpa using o3, by simpa using o4, by simpa using o5, by simpa using o6, by simpa using o7⟩

/-! ### the plain state -/
structure St.Ok (n : Nat) (st : St) : Prop where
  ls : st.seen.length = n
  lo : st.out.length = n
  ct : st.todo.length + st.seen.count false ≤ n
  td : ∀ x ∈ st.todo, 0 ≤ x ∧ x < n
  l20 : ∀ l ∈ st.out, l.length ≤ 20
/-- What still may be done. -/
def St.left (st : St) : Nat := st.todo.length + 2 * st.seen.count false
theorem count_set_true {l : List Bool} {i : Nat} (h : l[i]? = some false) : (l.set i true).count false + 1 = l.count false := by
  induction l generalizing i with
  | nil => simp at h
  | cons b t ih =>
    cases i with
    | zero => simp at h; subst h; simp
    | succ i =>
      simp only [List.getElem?_cons_succ] at h
      have := ih h
      cases b <;> simp <;> omega
theorem comeF_ok {n : Nat} {st : St} (h : st.Ok n) (at_ : Int) (h0 : 0 ≤ at_) (l : List Tr) : (comeF n st at_ l).Ok n ∧ (comeF n st at_ l).left ≤ st.left := by
  unfold comeF
  split
  · exact ⟨⟨h.ls, h.lo, h.ct, h.td, h.l20⟩, Nat.le_refl _⟩
  · rename_i hb
    split
    · rename_i hs
      have hc := count_set_true hs
      refine ⟨⟨by simpa using h.ls, by simpa using h.lo, ?_, ?_, ?_⟩, ?_⟩
      · have := h.ct
        simp only [List.length_append, List.length_singleton]
        omega
      · intro x hx
        simp only [List.mem_append, List.mem_singleton] at hx
        rcases hx with hx | hx
        · exact h.td x hx
        · subst hx; exact ⟨h0, by omega⟩
      · intro m hm
        rcases List.mem_or_eq_of_mem_set hm with hm | hm
        · exact h.l20 m hm
        · subst hm; omega
      · simp only [St.left, List.length_append, List.length_singleton]
        omega
    · split
      · exact ⟨h, Nat.le_refl _⟩
      · exact ⟨⟨h.ls, h.lo, h.ct, h.td, h.l20⟩, Nat.le_refl _⟩
theorem fromF_ok {n : Nat} {code : List Ord} {st : St} (h : st.Ok n) (hj : jumpsOk code) (at_ : Nat) : (fromF n code st at_).Ok n ∧ (fromF n code st at_).left ≤ st.left := by
  unfold fromF
  split
  · rename_i i l hci hm
    obtain ⟨j1, j2⟩ := hj i (List.mem_of_getElem? hci)
    have two : ∀ x y : Int, 0 ≤ x → 0 ≤ y → ∀ l l', (comeF n (comeF n st x l) y l').Ok n ∧ (comeF n (comeF n st x l) y l').left ≤ st.left := fun x y hx hy l l' =>
      ⟨(comeF_ok (comeF_ok h x hx l).1 y hy l').1, Nat.le_trans (comeF_ok (comeF_ok h x hx l).1 y hy l').2 (comeF_ok h x hx l).2⟩
    split
    · exact ⟨h, Nat.le_refl _⟩
    · split
      · rename_i ho; exact comeF_ok h _ (j1 ho) _
      · split
        · rename_i ho; exact two _ _ (j2 (.inl ho)) (by omega) _ _
        · split
          · rename_i ho; exact two _ _ (j2 (.inr ho)) (by omega) _ _
          · split
            · split
              · exact ⟨⟨h.ls, h.lo, h.ct, h.td, h.l20⟩, Nat.le_refl _⟩
              · exact comeF_ok h _ (by omega) _
            · exact comeF_ok h _ (by omega) _
  · exact ⟨h, Nat.le_refl _⟩

/-- One turn: the last place that is to be done is done. -/
def turnF (n : Nat) (code : List Ord) (st : St) : St := fromF n code { st with todo := st.todo.dropLast } ((st.todo.getLast?.getD 0).toNat)
def runF (n : Nat) (code : List Ord) : Nat → St → St
  | 0, st => st
  | k + 1, st => if st.todo = [] ∨ st.bad = true then st else runF n code k (turnF n code st)
theorem runF_done {n : Nat} {code : List Ord} {st : St} (h : st.todo = [] ∨ st.bad = true) (k : Nat) : runF n code k st = st := by
  cases k with
  | zero => rfl
  | succ k => simp only [runF, if_pos h]
theorem turnF_ok {n : Nat} {code : List Ord} {st : St} (h : st.Ok n) (hj : jumpsOk code) (hn : st.todo ≠ []) : (turnF n code st).Ok n ∧ (turnF n code st).left < st.left := by
  have h1 : ({ st with todo := st.todo.dropLast } : St).Ok n := ⟨h.ls, h.lo, by have := h.ct; simp only [List.length_dropLast]; omega, fun x hx => h.td x ((List.dropLast_sublist st.todo).subset hx), h.l20⟩
  have h2 := fromF_ok h1 hj (st.todo.getLast?.getD 0).toNat
  refine ⟨h2.1, Nat.lt_of_le_of_lt h2.2 ?_⟩
  have : 0 < st.todo.length := List.length_pos_iff.2 hn
  simp only [St.left, List.length_dropLast]
  omega
def init (n : Nat) : St := ⟨List.replicate n false, List.replicate n [], [], false⟩
/-- All tries of a function, whether each order is come to, and whether it is right. -/
def triesF (code : List Ord) : St := runF code.length code (2 * code.length + 2) (comeF code.length (init code.length) 0 [])
end Go.Proofs.YtefkifdhjabdiaaDoor
namespace Go.Proofs.YtefkifdhjabdiaaDoor
set_option linter.unusedVariables false
set_option linter.unusedSimpArgs false
open Go.RowKit

theorem Own.pop {e : TypeId} {w : World} {base : Nat} {A : Option Addr} {c : Nat} {xs : List Int} (h : Own Rd.int e (fun _ => False) w base (.slice A xs.length c) xs) (hx : xs ≠ []) : Own Rd.int e (fun _ => False) w base (.slice A (xs.length - 1) c) xs.dropLast := by
  obtain ⟨cells, ⟨h0, h1⟩, h2⟩ := h.ex
  have hp : 0 < xs.length := List.length_pos_iff.2 hx
  have hsz : Rd.int.sz = 1 := rfl
  rw [hsz, Nat.mul_one] at h0
  rcases h1 with ⟨h1, h1'⟩ | ⟨g, cap, cur, hv, hb, hh, hc, hm, hs, ht⟩
  · omega
  · injection hv with v1 v2 v3
    subst v1 v3
    refine ⟨cells.take (xs.length - 1), ⟨?_, .inr ⟨g, c, cur, by rw [List.length_dropLast], hb, hh, by rw [List.length_dropLast]; omega, hm, hs, ?_⟩⟩, fun i x hi => ?_⟩
    · rw [List.length_take, h0, List.length_dropLast, hsz]; omega
    · rw [List.length_dropLast, hsz, Nat.mul_one, ← ht, hsz, Nat.mul_one, List.take_take]
      congr 1
      omega
    · have hi' : i < xs.length - 1 := by have := (List.getElem?_eq_some_iff.1 hi).1; rwa [List.length_dropLast] at this
      rw [List.getElem?_dropLast, if_pos hi'] at hi
      have := h2 i x hi
      obtain ⟨e1, e2⟩ := this
      refine ⟨?_, e2⟩
      rw [← e1]
      simp only [hsz, Nat.mul_one, List.take_one, List.head?_drop]
      rw [List.getElem?_take, if_pos hi']
theorem WS.pop {w : World} {base : Nat} {f : Wf} {A : Option Addr} {c : Nat} {st : St} (h : WS w base f (.slice A st.todo.length c) st) (hx : st.todo ≠ []) :
    WS (w.setCell ⟨f.wb, 7, none⟩ (.slice A (st.todo.length - 1) c)) base f (.slice A (st.todo.length - 1) c) { st with todo := st.todo.dropLast } := by
  obtain ⟨n1, n2, n3, b1, b2, b3⟩ := h.ne
  obtain ⟨t1, t2, t3⟩ := h.tb
  have hob : (Value.slice A (st.todo.length - 1) c).ownBlock = (Value.slice A st.todo.length c).ownBlock := by cases A <;> rfl
  have K : ∀ k, k ≠ f.wb → (w.setCell ⟨f.wb, 7, none⟩ (.slice A (st.todo.length - 1) c)).heap[k]? = w.heap[k]? := fun k hk => Below.heap_setCell _ _ _ _ hk
  obtain ⟨outv, h1, h2, h3⟩ := h.ho
  have hq : ∀ k, (False ∨ (Value.slice A (st.todo.length - 1) c).ownBlock = some k) → k ≠ f.wb := by
    rw [hob]
    rintro k (hk | hk) rfl
    · exact hk
    · exact t1 hk
  refine ⟨?_, (K _ (Ne.symm n1)).trans h.hs, ⟨outv, (K _ (Ne.symm n3)).trans h1, h2, fun i v l hv hl => (Rd.slice rdTry).mono (fun k hk => ⟨hk.1, hk.2.1, hk.2.2.1, by rw [hob]; exact hk.2.2.2⟩) ((Rd.slice rdTry).move (fun k hk _ => K k hk.1) (h3 i v l hv hl))⟩, (h.own.pop hx).move (fun k hk _ => K k (hq k hk)), h.ne, by rw [hob]; exact h.tb, h.ls, h.lo, h.hn⟩
  rw [block_set h.hw 7]
  rfl
end Go.Proofs.YtefkifdhjabdiaaDoor
namespace Go.Proofs.YtefkifdhjabdiaaDoor
set_option linter.unusedVariables false
set_option linter.unusedSimpArgs false
open Go.RowKit

theorem madeCells_one (z : Value) (n : Nat) (hz : z.cells = #[z]) : madeCells z.cells (n * 1) = Array.replicate n z := by
  apply Array.toList_inj.1
  rw [hz, toList_madeCells_one, Nat.mul_one, Array.toList_replicate]
theorem make_seen (n : Nat) (hn : n ≤ 600) (w : World) : (Instr.makeSlice 108 (.int .i64 (n : Int)) (.int .i64 (n : Int))).run Tryd.prog w = .ok (.slice (some ⟨w.heap.size, 0, none⟩) n n) (w.alloc (.cells (Array.replicate n (Value.bool false)) 4)) := by
  obtain ⟨i, hi, hz, hs, hb⟩ : ∃ i, Tryd.prog.info? 4 = some i ∧ i.zero = some (.bool false) ∧ i.size = 1 ∧ i.bytes = 1 := by
    have h : (Tryd.prog.info? 4).map (fun i => (i.zero, i.size, i.bytes)) = some (some (Value.bool false), 1, 1) := by kernel_rfl
    obtain ⟨i, hi, he⟩ := Option.map_eq_some_iff.1 h
    simp only [Prod.mk.injEq] at he
    exact ⟨i, hi, he.1, he.2.1, he.2.2⟩
  have h := run_make (P := Tryd.prog) w 108 4 i (.bool false) Tryd.underlying108 hi hz .i64 .i64 (n : Int) (n : Int) (by omega) (by omega) (by rw [hb]; omega) (by omega)
  rw [Int.toNat_natCast] at h
  rw [h, hs, madeCells_one _ _ rfl]
theorem make_out (n : Nat) (hn : n ≤ 600) (w : World) : (Instr.makeSlice 191 (.int .i64 (n : Int)) (.int .i64 (n : Int))).run Tryd.prog w = .ok (.slice (some ⟨w.heap.size, 0, none⟩) n n) (w.alloc (.cells (Array.replicate n (Value.slice none 0 0)) 223)) := by
  obtain ⟨i, hi, hz, hs, hb⟩ : ∃ i, Tryd.prog.info? 223 = some i ∧ i.zero = some (.slice none 0 0) ∧ i.size = 1 ∧ i.bytes = 24 := by
    have h : (Tryd.prog.info? 223).map (fun i => (i.zero, i.size, i.bytes)) = some (some (Value.slice none 0 0), 1, 24) := by kernel_rfl
    obtain ⟨i, hi, he⟩ := Option.map_eq_some_iff.1 h
    simp only [Prod.mk.injEq] at he
    exact ⟨i, hi, he.1, he.2.1, he.2.2⟩
  have h := run_make (P := Tryd.prog) w 191 223 i (.slice none 0 0) Tryd.underlying191 hi hz .i64 .i64 (n : Int) (n : Int) (by omega) (by omega) (by rw [hb]; omega) (by omega)
  rw [Int.toNat_natCast] at h
  rw [h, hs, madeCells_one _ _ rfl]

/-! ### the loop -/
/-- How much is still to be done, read off memory. -/
def leftW (f : Wf) (w : World) : Nat :=
  (match w.cell? ⟨f.wb, 7, none⟩ with | some (.slice _ n _) => n | _ => 0) + 2 * (match w.heap[f.sb]? with | some (.cells cs _ _) => cs.toList.countP (fun v => match v with | .bool false => true | _ => false) | _ => 0)
theorem WS.left {w : World} {base : Nat} {f : Wf} {vt : Value} {st : St} (h : WS w base f vt st) : leftW f w = st.left := by
  obtain ⟨A, c, hv, _⟩ := h.own.reads (by decide)
  injection hv with hv
  subst hv
  have e7 := cell_at h.hw 7 rfl
  have e7' : w.cell? ⟨f.wb, 7, none⟩ = some (.slice A st.todo.length c) := e7
  unfold leftW St.left
  rw [e7', h.hs]
  simp only
  congr 2
  rw [List.count, List.countP_map]
  congr 1
  funext b
  cases b <;> rfl
theorem init_ok (n : Nat) : (init n).Ok n := ⟨by simp [init], by simp [init], by simp [init], fun x hx => by simp [init] at hx, fun l hl => by simp [init] at hl; rw [hl.2]; simp⟩
/-- The walk as it begins. -/
theorem WS.init (w : World) (base : Nat) (f : Wf) (hn : f.n ≤ 600) (hne : f.wb ≠ f.sb ∧ f.sb ≠ f.ob ∧ f.wb ≠ f.ob ∧ base ≤ f.wb ∧ base ≤ f.sb ∧ base ≤ f.ob)
    (hw : w.heap[f.wb]? = some (.cells (f.cells (.slice none 0 0) false) 210 (0, 0))) (hs : w.heap[f.sb]? = some (.cells (Array.replicate f.n (Value.bool false)) 4 (0, 0))) (ho : w.heap[f.ob]? = some (.cells (Array.replicate f.n (Value.slice none 0 0)) 223 (0, 0))) :
    WS w base f (.slice none 0 0) (init f.n) :=
  ⟨hw, by rw [hs]; simp [Go.Proofs.YtefkifdhjabdiaaDoor.init], ⟨List.replicate f.n (.slice none 0 0), by rw [ho]; simp, by simp, fun i v l hv hl => by
    obtain ⟨h1, rfl⟩ := by simpa [List.getElem?_replicate] using hv
    obtain ⟨h2, rfl⟩ := by simpa [Go.Proofs.YtefkifdhjabdiaaDoor.init, List.getElem?_replicate] using hl
    exact ⟨none, 0, rfl, Nat.le_refl _, by omega, fun _ => rfl, Rd.C.nil _ _ _ _⟩⟩, Own.nil _ _ _ _ _, hne, ⟨by simp [Value.ownBlock], by simp [Value.ownBlock], by simp [Value.ownBlock]⟩, by simp [Go.Proofs.YtefkifdhjabdiaaDoor.init], by simp [Go.Proofs.YtefkifdhjabdiaaDoor.init], hn⟩
theorem four (w : World) (a b c d : Obj) : ((((w.alloc a).alloc b).alloc c).alloc d).drew.heap[w.heap.size + 1]? = some b ∧ ((((w.alloc a).alloc b).alloc c).alloc d).drew.heap[w.heap.size + 1 + 1]? = some c ∧ ((((w.alloc a).alloc b).alloc c).alloc d).drew.heap[w.heap.size + 1 + 1 + 1]? = some d ∧ Below w.heap.size w ((((w.alloc a).alloc b).alloc c).alloc d).drew := by
  refine ⟨?_, ?_, ?_, ?_⟩
  · show ((((w.alloc a).alloc b).alloc c).alloc d).heap[_]? = _
    rw [Below.heap_alloc _ _ _ (by simp), Below.heap_alloc _ _ _ (by simp)]
    have := heap_alloc_new (w.alloc a) b
    simpa using this
  · show ((((w.alloc a).alloc b).alloc c).alloc d).heap[_]? = _
    rw [Below.heap_alloc _ _ _ (by simp)]
    have := heap_alloc_new ((w.alloc a).alloc b) c
    simpa using this
  · show ((((w.alloc a).alloc b).alloc c).alloc d).heap[_]? = _
    have := heap_alloc_new (((w.alloc a).alloc b).alloc c) d
    simpa using this
  · exact (((((Below.refl _ _).alloc (Nat.le_refl _) _).alloc (by simp) _).alloc (by simp; omega) _).alloc (by simp; omega) _).drew

set_option maxRecDepth 100000 in
set_option maxHeartbeats 8000000 in
theorem tries_any (w : World) (ok : Nat → Prop) (fn : Fn) (v1 : Value) (A : Option Addr) (c : Nat) (hcode : rdOrd.C ok w A fn.code.length fn.code) (hj : jumpsOk fn.code) (hn : fn.code.length ≤ 600) :
    Calls Tryd.prog 122 #[.agg #[.int .i64 fn.params, .int .i64 fn.regs, .bool fn.gen, v1, .slice A fn.code.length c]] w fun e w' => ∃ vo vs, e = .returned (.tuple #[vo, vs, .bool (!(triesF fn.code).bad)]) ∧ Below w.heap.size w w' := by
  have HC : Hid (∀ w', Below w.heap.size w w' → rdOrd.CB w.heap.size w' A fn.code.length fn.code) := Lib.hid (fun w' hb => ((hcode.bound).mono (fun k hk => hk.2)).below hb)
  have HJ := Lib.hid hj
  have mk1 := make_seen fn.code.length hn
  have mk2 := make_out fn.code.length hn
  have HR := Lib.hid (show triesF fn.code = runF fn.code.length fn.code (2 * fn.code.length + 2) (comeF fn.code.length (init fn.code.length) 0 []) from rfl)
  generalize triesF fn.code = R at HR ⊢
  generalize hcl : fn.code.length = n at *
  clear hcode hj
  go_enter Tryd.func122, Tryd.ntmps122
  go_wp2_with fail
  go_region
  · obtain ⟨W, hW⟩ : ∃ W, W = ((((w.alloc (.cells #[.int .i64 fn.params, .int .i64 fn.regs, .bool fn.gen, v1, .slice A n c] 84)).alloc (.cells (Array.replicate n (Value.bool false)) 4)).alloc (.cells (Array.replicate n (Value.slice none 0 0)) 223)).alloc (.cells #[.int .i64 fn.params, .int .i64 fn.regs, .bool fn.gen, v1, .slice A n c, .slice (some ⟨w.heap.size + 1, 0, none⟩) n n, .slice (some ⟨w.heap.size + 1 + 1, 0, none⟩) n n, .slice none 0 0, .bool false] 210)).drew := ⟨_, rfl⟩
    rw [← hW]
    obtain ⟨q1, q2, q3, qB⟩ := four w (.cells #[.int .i64 fn.params, .int .i64 fn.regs, .bool fn.gen, v1, .slice A n c] 84) (.cells (Array.replicate n (Value.bool false)) 4) (.cells (Array.replicate n (Value.slice none 0 0)) 223) (.cells #[.int .i64 fn.params, .int .i64 fn.regs, .bool fn.gen, v1, .slice A n c, .slice (some ⟨w.heap.size + 1, 0, none⟩) n n, .slice (some ⟨w.heap.size + 1 + 1, 0, none⟩) n n, .slice none 0 0, .bool false] 210)
    rw [← hW] at q1 q2 q3 qB
    have hWS : WS W w.heap.size ⟨n, w.heap.size + 1 + 1 + 1, w.heap.size + 1, w.heap.size + 1 + 1, fn.params, fn.regs, fn.gen, v1, A, c⟩ (.slice none 0 0) (init n) := WS.init W w.heap.size ⟨n, w.heap.size + 1 + 1 + 1, w.heap.size + 1, w.heap.size + 1 + 1, fn.params, fn.regs, fn.gen, v1, A, c⟩ hn (by simp; omega) q3 q1 q2
    have hsz := qB.size
    clear hW q1 q2 q3 mk1 mk2
    generalize w.heap.size + 1 + 1 + 1 = wb at hWS ⊢
    generalize w.heap.size + 1 + 1 = ob at hWS ⊢
    generalize w.heap.size + 1 = sb at hWS ⊢
    obtain ⟨f, hf⟩ : ∃ f : Wf, f = ⟨n, wb, sb, ob, fn.params, fn.regs, fn.gen, v1, A, c⟩ := ⟨_, rfl⟩
    rw [← hf] at hWS
    have f1 : f.wb = wb := by rw [hf]
    have f2 : f.n = n := by rw [hf]
    have f3 : f.A5 = A := by rw [hf]
    have HCM := come_any W w.heap.size hsz f _ _ hWS 0 (by omega) (.slice none 0 0) [] ⟨none, 0, rfl, Nat.le_refl _, by omega, fun _ => rfl, Rd.C.nil _ _ _ _⟩ (by simp [init])
    rw [f1, f2] at HCM
    have ok0 := comeF_ok (init_ok n) 0 (by omega) []
    have lf0 : (init n).left = 2 * n := by simp [init, St.left]
    obtain ⟨st0, hst0⟩ : ∃ st0, st0 = comeF n (init n) 0 [] := ⟨_, rfl⟩
    rw [← hst0] at HCM ok0 HR
    have HST := Lib.hid ok0
    have HCM' := Lib.hid HCM
    have HF := Lib.hid hf
    have HB := Lib.hid qB
    clear hWS HCM ok0 hst0 hf qB hsz
    go_wp2_with fail
    refine (HCM'.out).mono ?_
    rintro e w2 ⟨rfl, hb, vt2, hk, hws⟩
    have hI : WS w2 w.heap.size f vt2 st0 ∧ Below w.heap.size w w2 := ⟨hws, HB.out.trans hb⟩
    have HI := Lib.hid hI
    clear hb hk hws hI HCM'
    go_wp2_with fail
    go_loopw [] (fun wr => ∃ (vt : Value) (st : St) (k : Nat), Hid (WS wr w.heap.size f vt st) ∧ Hid (Below w.heap.size w wr) ∧ Hid (st.Ok n) ∧ Hid (st.left + k ≤ 2 * n) ∧ Hid (∀ m, runF n fn.code (m + k) st0 = runF n fn.code m st)) (fun wr => leftW f wr)
    case atStart => exact ⟨vt2, st0, 0, Lib.hid HI.out.1, Lib.hid HI.out.2, Lib.hid HST.out.1, Lib.hid (by have := HST.out.2; rw [lf0] at this; simpa using this), Lib.hid (fun m => rfl)⟩
    case round =>
      obtain ⟨vt, st, k, HW, HBl, HO, HLe, HRu⟩ := hrel
      obtain ⟨A', c', hvt⟩ : ∃ A' c', vt = .slice A' st.todo.length c' := by
        obtain ⟨A', c', hv, _⟩ := HW.out.own.reads (by decide)
        injection hv with hv
        exact ⟨_, _, hv⟩
      subst hvt
      have e5 : wr.cell? ⟨f.wb, 5, none⟩ = some (.slice (some ⟨f.sb, 0, none⟩) f.n f.n) := cell_at HW.out.hw 5 rfl
      have e6 : wr.cell? ⟨f.wb, 6, none⟩ = some (.slice (some ⟨f.ob, 0, none⟩) f.n f.n) := cell_at HW.out.hw 6 rfl
      have e7 : wr.cell? ⟨f.wb, 7, none⟩ = some (.slice A' st.todo.length c') := cell_at HW.out.hw 7 rfl
      have e8 : wr.cell? ⟨f.wb, 8, none⟩ = some (.bool st.bad) := cell_at HW.out.hw 8 rfl
      have fr : wr.frozen? ⟨f.wb, 7, none⟩ = false := free_at HW.out.hw 7
      have hct : st.todo.length ≤ n := by have := HO.out.ct; omega
      rw [f1] at e5 e6 e7 e8 fr
      have fin : (st.todo = [] ∨ st.bad = true) → R = st := fun hd => by
        have h1 := HRu.out (2 * n + 2 - k)
        have h2 := HLe.out
        rw [show 2 * n + 2 - k + k = 2 * n + 2 by omega, ← HR.out, runF_done hd] at h1
        exact h1
      have HFin := Lib.hid fin
      clear fin
      by_cases ht : st.todo = []
      · have hR := HFin.out (.inl ht)
        have hl0 : st.todo.length = 0 := by rw [ht]; rfl
        rw [hl0] at e7
        have HRR := Lib.hid hR
        clear hR ht hl0
        go_wp2_with fail
        go_quiet (fail)
        go_wp2_with fail
        refine bodyPost_ret (v := .tuple #[.slice (some ⟨f.ob, 0, none⟩) f.n f.n, .slice (some ⟨f.sb, 0, none⟩) f.n f.n, .bool (!st.bad)]) (by simp [results, Tryd.results122, go_sem, f2]) rfl ⟨_, _, by rw [HRR.out], ?_⟩
        exact ⟨HBl.out.os, HBl.out.tape, HBl.out.output, HBl.out.size, HBl.out.block⟩
      · obtain ⟨m, hm⟩ : ∃ m, st.todo.length = m + 1 := ⟨st.todo.length - 1, by have := List.length_pos_iff.2 ht; omega⟩
        cases hbd : st.bad with
        | true =>
          have HRR := Lib.hid (HFin.out (.inr hbd))
          rw [hm] at e7
          rw [hbd] at e8
          go_wp2_with fail
          go_quiet (fail)
          go_wp2_with fail
          refine bodyPost_ret (v := .tuple #[.slice (some ⟨f.ob, 0, none⟩) f.n f.n, .slice (some ⟨f.sb, 0, none⟩) f.n f.n, .bool false]) (by simp [results, Tryd.results122, go_sem, f2]) rfl ⟨_, _, by rw [HRR.out, hbd]; rfl, ?_⟩
          exact ⟨HBl.out.os, HBl.out.tape, HBl.out.output, HBl.out.size, HBl.out.block⟩
        | false =>
          obtain ⟨x, hx⟩ : ∃ x, st.todo[m]? = some x := ⟨_, List.getElem?_eq_getElem (by omega)⟩
          obtain ⟨A2, c2, hv2, _, _, _, hC2⟩ := HW.out.own.reads (by decide)
          injection hv2 with hv2
          injection hv2 with hv2 _ hv3
          subst hv2 hv3
          obtain ⟨ad, cs, rfl, _, _, ⟨rfl, hxi⟩, hc0, _⟩ := hC2.elem m x hx
          have ex : wr.cell? (ad.add m) = some (.int .i64 x) := by have := hc0 _ rfl; simpa [Rd.int] using this
          rw [hm] at e7
          rw [hbd] at e8
          clear hc0 hC2
          have htd := HO.out.td x (List.mem_of_getElem? hx)
          obtain ⟨i, rfl⟩ := Int.eq_ofNat_of_zero_le htd.1
          have hgl : st.todo.getLast?.getD 0 = (i : Int) := by rw [List.getLast?_eq_getElem?, hm, Nat.add_sub_cancel, hx]; rfl
          have htf : turnF n fn.code st = fromF n fn.code { st with todo := st.todo.dropLast } i := by unfold turnF; rw [hgl, Int.toNat_natCast]
          have HP : Hid (∀ q, Below w.heap.size wr ((wr.drewN q).setCell ⟨wb, 7, none⟩ (.slice (some ad) m c')) ∧ WS ((wr.drewN q).setCell ⟨wb, 7, none⟩ (.slice (some ad) m c')) w.heap.size f (.slice (some ad) m c') { st with todo := st.todo.dropLast }) := Lib.hid (fun q => by
            have h0 := HW.out.same (w1 := wr.drewN q) (fun _ _ => rfl)
            have h1 := h0.pop ht
            have h2 := h0.below 7 (.slice (some ad) m c')
            rw [hm, Nat.add_sub_cancel, f1] at h1
            rw [f1] at h2
            exact ⟨⟨h2.os, h2.tape, h2.output, h2.size, h2.block⟩, h1⟩)
          have HT := Lib.hid (And.intro htf (And.intro (turnF_ok HO.out HJ.out ht) (show runF n fn.code 1 st = turnF n fn.code st by simp [runF, ht, hbd])))
          have HOld := Lib.hid (And.intro HW.out.left (And.intro ht hbd))
          have HI2 := Lib.hid htd.2
          clear hgl htf htd hx hxi
          go_wp2_with fail
          go_quiet (fail)
          go_wp2_with fail
          go_region
          obtain ⟨W3, hW3⟩ : ∃ W3, W3 = (wr.drewN (nq + 1)).setCell ⟨wb, 7, none⟩ (.slice (some ad) m c') := ⟨_, rfl⟩
          rw [← hW3]
          obtain ⟨pB, pW⟩ := HP.out (nq + 1)
          rw [← hW3] at pB pW
          have pB2 := HBl.out.trans pB
          have HFR : Hid (Calls Tryd.prog 150 #[.pointer (some ⟨wb, 0, none⟩), .int .i64 i] W3 fun e w' => e = .returned (.tuple #[]) ∧ Below w.heap.size W3 w' ∧ ∃ vt', Kept f W3 w' (.slice (some ad) m c') vt' ∧ WS w' w.heap.size f vt' (fromF n fn.code { st with todo := st.todo.dropLast } i)) := Lib.hid (by
            have := from_any W3 w.heap.size pB2.size f _ _ pW (by have := HO.out.ct; simp only [List.length_dropLast]; omega) i (by rw [f2]; have := HI2.out; omega) fn.code (by rw [f3, f2]; exact HC.out _ pB2) HJ.out HO.out.l20
            rwa [f1, f2] at this)
          have HB3 := Lib.hid pB2
          clear pB pW pB2 hW3 e5 e6 e7 e8 fr ex
          go_wp2_with fail
          refine (HFR.out).mono ?_
          rintro e w4 ⟨rfl, hb, vt3, hk, hws⟩
          have HN := Lib.hid (And.intro hws (HB3.out.trans hb))
          clear hb hk hws
          go_wp2_with fail
          go_roundw
          case rel =>
            obtain ⟨t1, ⟨t2, t3⟩, t4⟩ := HT.out
            refine ⟨vt3, turnF n fn.code st, k + 1, Lib.hid (by rw [t1]; exact HN.out.1), Lib.hid HN.out.2, Lib.hid t2, Lib.hid (by have := HLe.out; omega), Lib.hid (fun q => ?_)⟩
            have h1 := HRu.out (q + 1)
            rw [show q + (k + 1) = q + 1 + k by omega, h1]
            simp only [runF, HOld.out.2.1, HOld.out.2.2]
            simp
          case measure =>
            obtain ⟨t1, ⟨t2, t3⟩, t4⟩ := HT.out
            rw [HOld.out.1, HN.out.1.left, ← t1]
            exact t3
  · obtain ⟨W, hW⟩ : ∃ W, W = ((((w.alloc (.cells #[.int .i64 fn.params, .int .i64 fn.regs, .bool fn.gen, v1, .slice A n c] 84)).alloc (.cells (Array.replicate n (Value.slice none 0 0)) 223)).alloc (.cells (Array.replicate n (Value.bool false)) 4)).alloc (.cells #[.int .i64 fn.params, .int .i64 fn.regs, .bool fn.gen, v1, .slice A n c, .slice (some ⟨w.heap.size + 1 + 1, 0, none⟩) n n, .slice (some ⟨w.heap.size + 1, 0, none⟩) n n, .slice none 0 0, .bool false] 210)).drew := ⟨_, rfl⟩
    rw [← hW]
    obtain ⟨q1, q2, q3, qB⟩ := four w (.cells #[.int .i64 fn.params, .int .i64 fn.regs, .bool fn.gen, v1, .slice A n c] 84) (.cells (Array.replicate n (Value.slice none 0 0)) 223) (.cells (Array.replicate n (Value.bool false)) 4) (.cells #[.int .i64 fn.params, .int .i64 fn.regs, .bool fn.gen, v1, .slice A n c, .slice (some ⟨w.heap.size + 1 + 1, 0, none⟩) n n, .slice (some ⟨w.heap.size + 1, 0, none⟩) n n, .slice none 0 0, .bool false] 210)
    rw [← hW] at q1 q2 q3 qB
    have hWS : WS W w.heap.size ⟨n, w.heap.size + 1 + 1 + 1, w.heap.size + 1 + 1, w.heap.size + 1, fn.params, fn.regs, fn.gen, v1, A, c⟩ (.slice none 0 0) (init n) := WS.init W w.heap.size ⟨n, w.heap.size + 1 + 1 + 1, w.heap.size + 1 + 1, w.heap.size + 1, fn.params, fn.regs, fn.gen, v1, A, c⟩ hn (by simp; omega) q3 q2 q1
    have hsz := qB.size
    clear hW q1 q2 q3 mk1 mk2
    generalize w.heap.size + 1 + 1 + 1 = wb at hWS ⊢
    generalize w.heap.size + 1 + 1 = sb at hWS ⊢
    generalize w.heap.size + 1 = ob at hWS ⊢
    obtain ⟨f, hf⟩ : ∃ f : Wf, f = ⟨n, wb, sb, ob, fn.params, fn.regs, fn.gen, v1, A, c⟩ := ⟨_, rfl⟩
    rw [← hf] at hWS
    have f1 : f.wb = wb := by rw [hf]
    have f2 : f.n = n := by rw [hf]
    have f3 : f.A5 = A := by rw [hf]
    have HCM := come_any W w.heap.size hsz f _ _ hWS 0 (by omega) (.slice none 0 0) [] ⟨none, 0, rfl, Nat.le_refl _, by omega, fun _ => rfl, Rd.C.nil _ _ _ _⟩ (by simp [init])
    rw [f1, f2] at HCM
    have ok0 := comeF_ok (init_ok n) 0 (by omega) []
    have lf0 : (init n).left = 2 * n := by simp [init, St.left]
    obtain ⟨st0, hst0⟩ : ∃ st0, st0 = comeF n (init n) 0 [] := ⟨_, rfl⟩
    rw [← hst0] at HCM ok0 HR
    have HST := Lib.hid ok0
    have HCM' := Lib.hid HCM
    have HF := Lib.hid hf
    have HB := Lib.hid qB
    clear hWS HCM ok0 hst0 hf qB hsz
    go_wp2_with fail
    refine (HCM'.out).mono ?_
    rintro e w2 ⟨rfl, hb, vt2, hk, hws⟩
    have hI : WS w2 w.heap.size f vt2 st0 ∧ Below w.heap.size w w2 := ⟨hws, HB.out.trans hb⟩
    have HI := Lib.hid hI
    clear hb hk hws hI HCM'
    go_wp2_with fail
    go_loopw [] (fun wr => ∃ (vt : Value) (st : St) (k : Nat), Hid (WS wr w.heap.size f vt st) ∧ Hid (Below w.heap.size w wr) ∧ Hid (st.Ok n) ∧ Hid (st.left + k ≤ 2 * n) ∧ Hid (∀ m, runF n fn.code (m + k) st0 = runF n fn.code m st)) (fun wr => leftW f wr)
    case atStart => exact ⟨vt2, st0, 0, Lib.hid HI.out.1, Lib.hid HI.out.2, Lib.hid HST.out.1, Lib.hid (by have := HST.out.2; rw [lf0] at this; simpa using this), Lib.hid (fun m => rfl)⟩
    case round =>
      obtain ⟨vt, st, k, HW, HBl, HO, HLe, HRu⟩ := hrel
      obtain ⟨A', c', hvt⟩ : ∃ A' c', vt = .slice A' st.todo.length c' := by
        obtain ⟨A', c', hv, _⟩ := HW.out.own.reads (by decide)
        injection hv with hv
        exact ⟨_, _, hv⟩
      subst hvt
      have e5 : wr.cell? ⟨f.wb, 5, none⟩ = some (.slice (some ⟨f.sb, 0, none⟩) f.n f.n) := cell_at HW.out.hw 5 rfl
      have e6 : wr.cell? ⟨f.wb, 6, none⟩ = some (.slice (some ⟨f.ob, 0, none⟩) f.n f.n) := cell_at HW.out.hw 6 rfl
      have e7 : wr.cell? ⟨f.wb, 7, none⟩ = some (.slice A' st.todo.length c') := cell_at HW.out.hw 7 rfl
      have e8 : wr.cell? ⟨f.wb, 8, none⟩ = some (.bool st.bad) := cell_at HW.out.hw 8 rfl
      have fr : wr.frozen? ⟨f.wb, 7, none⟩ = false := free_at HW.out.hw 7
      have hct : st.todo.length ≤ n := by have := HO.out.ct; omega
      rw [f1] at e5 e6 e7 e8 fr
      have fin : (st.todo = [] ∨ st.bad = true) → R = st := fun hd => by
        have h1 := HRu.out (2 * n + 2 - k)
        have h2 := HLe.out
        rw [show 2 * n + 2 - k + k = 2 * n + 2 by omega, ← HR.out, runF_done hd] at h1
        exact h1
      have HFin := Lib.hid fin
      clear fin
      by_cases ht : st.todo = []
      · have hR := HFin.out (.inl ht)
        have hl0 : st.todo.length = 0 := by rw [ht]; rfl
        rw [hl0] at e7
        have HRR := Lib.hid hR
        clear hR ht hl0
        go_wp2_with fail
        go_quiet (fail)
        go_wp2_with fail
        refine bodyPost_ret (v := .tuple #[.slice (some ⟨f.ob, 0, none⟩) f.n f.n, .slice (some ⟨f.sb, 0, none⟩) f.n f.n, .bool (!st.bad)]) (by simp [results, Tryd.results122, go_sem, f2]) rfl ⟨_, _, by rw [HRR.out], ?_⟩
        exact ⟨HBl.out.os, HBl.out.tape, HBl.out.output, HBl.out.size, HBl.out.block⟩
      · obtain ⟨m, hm⟩ : ∃ m, st.todo.length = m + 1 := ⟨st.todo.length - 1, by have := List.length_pos_iff.2 ht; omega⟩
        cases hbd : st.bad with
        | true =>
          have HRR := Lib.hid (HFin.out (.inr hbd))
          rw [hm] at e7
          rw [hbd] at e8
          go_wp2_with fail
          go_quiet (fail)
          go_wp2_with fail
          refine bodyPost_ret (v := .tuple #[.slice (some ⟨f.ob, 0, none⟩) f.n f.n, .slice (some ⟨f.sb, 0, none⟩) f.n f.n, .bool false]) (by simp [results, Tryd.results122, go_sem, f2]) rfl ⟨_, _, by rw [HRR.out, hbd]; rfl, ?_⟩
          exact ⟨HBl.out.os, HBl.out.tape, HBl.out.output, HBl.out.size, HBl.out.block⟩
        | false =>
          obtain ⟨x, hx⟩ : ∃ x, st.todo[m]? = some x := ⟨_, List.getElem?_eq_getElem (by omega)⟩
          obtain ⟨A2, c2, hv2, _, _, _, hC2⟩ := HW.out.own.reads (by decide)
          injection hv2 with hv2
          injection hv2 with hv2 _ hv3
          subst hv2 hv3
          obtain ⟨ad, cs, rfl, _, _, ⟨rfl, hxi⟩, hc0, _⟩ := hC2.elem m x hx
          have ex : wr.cell? (ad.add m) = some (.int .i64 x) := by have := hc0 _ rfl; simpa [Rd.int] using this
          rw [hm] at e7
          rw [hbd] at e8
          clear hc0 hC2
          have htd := HO.out.td x (List.mem_of_getElem? hx)
          obtain ⟨i, rfl⟩ := Int.eq_ofNat_of_zero_le htd.1
          have hgl : st.todo.getLast?.getD 0 = (i : Int) := by rw [List.getLast?_eq_getElem?, hm, Nat.add_sub_cancel, hx]; rfl
          have htf : turnF n fn.code st = fromF n fn.code { st with todo := st.todo.dropLast } i := by unfold turnF; rw [hgl, Int.toNat_natCast]
          have HP : Hid (∀ q, Below w.heap.size wr ((wr.drewN q).setCell ⟨wb, 7, none⟩ (.slice (some ad) m c')) ∧ WS ((wr.drewN q).setCell ⟨wb, 7, none⟩ (.slice (some ad) m c')) w.heap.size f (.slice (some ad) m c') { st with todo := st.todo.dropLast }) := Lib.hid (fun q => by
            have h0 := HW.out.same (w1 := wr.drewN q) (fun _ _ => rfl)
            have h1 := h0.pop ht
            have h2 := h0.below 7 (.slice (some ad) m c')
            rw [hm, Nat.add_sub_cancel, f1] at h1
            rw [f1] at h2
            exact ⟨⟨h2.os, h2.tape, h2.output, h2.size, h2.block⟩, h1⟩)
          have HT := Lib.hid (And.intro htf (And.intro (turnF_ok HO.out HJ.out ht) (show runF n fn.code 1 st = turnF n fn.code st by simp [runF, ht, hbd])))
          have HOld := Lib.hid (And.intro HW.out.left (And.intro ht hbd))
          have HI2 := Lib.hid htd.2
          clear hgl htf htd hx hxi
          go_wp2_with fail
          go_quiet (fail)
          go_wp2_with fail
          go_region
          obtain ⟨W3, hW3⟩ : ∃ W3, W3 = (wr.drewN (nq + 1)).setCell ⟨wb, 7, none⟩ (.slice (some ad) m c') := ⟨_, rfl⟩
          rw [← hW3]
          obtain ⟨pB, pW⟩ := HP.out (nq + 1)
          rw [← hW3] at pB pW
          have pB2 := HBl.out.trans pB
          have HFR : Hid (Calls Tryd.prog 150 #[.pointer (some ⟨wb, 0, none⟩), .int .i64 i] W3 fun e w' => e = .returned (.tuple #[]) ∧ Below w.heap.size W3 w' ∧ ∃ vt', Kept f W3 w' (.slice (some ad) m c') vt' ∧ WS w' w.heap.size f vt' (fromF n fn.code { st with todo := st.todo.dropLast } i)) := Lib.hid (by
            have := from_any W3 w.heap.size pB2.size f _ _ pW (by have := HO.out.ct; simp only [List.length_dropLast]; omega) i (by rw [f2]; have := HI2.out; omega) fn.code (by rw [f3, f2]; exact HC.out _ pB2) HJ.out HO.out.l20
            rwa [f1, f2] at this)
          have HB3 := Lib.hid pB2
          clear pB pW pB2 hW3 e5 e6 e7 e8 fr ex
          go_wp2_with fail
          refine (HFR.out).mono ?_
          rintro e w4 ⟨rfl, hb, vt3, hk, hws⟩
          have HN := Lib.hid (And.intro hws (HB3.out.trans hb))
          clear hb hk hws
          go_wp2_with fail
          go_roundw
          case rel =>
            obtain ⟨t1, ⟨t2, t3⟩, t4⟩ := HT.out
            refine ⟨vt3, turnF n fn.code st, k + 1, Lib.hid (by rw [t1]; exact HN.out.1), Lib.hid HN.out.2, Lib.hid t2, Lib.hid (by have := HLe.out; omega), Lib.hid (fun q => ?_)⟩
            have h1 := HRu.out (q + 1)
            rw [show q + (k + 1) = q + 1 + k by omega, h1]
            simp only [runF, HOld.out.2.1, HOld.out.2.2]
            simp
          case measure =>
            obtain ⟨t1, ⟨t2, t3⟩, t4⟩ := HT.out
            rw [HOld.out.1, HN.out.1.left, ← t1]
            exact t3
end Go.Proofs.YtefkifdhjabdiaaDoor
