/- All: the sort. -/
import Derived.Test.YtefkifdhjabdiaaHeatD
import Derived.Shelf.SlSortCmp.WholeK
import Derived.Shelf.SlGeneric
namespace Go.Proofs.Ytefkifdhjabdiaa
set_option linter.unusedVariables false
set_option linter.unusedSimpArgs false
open Go.Shelf

def sortHd_ren : Go.Shelf.Ren := ⟨fun | 6 => 20 | 15 => 26 | 14 => 25 | 28 => 36 | 29 => 37 | 20 => 28 | 21 => 29 | 22 => 30 | 23 => 31 | 24 => 32 | 25 => 33 | 26 => 34 | 27 => 35 | 46 => 38 | 47 => 39 | 48 => 40 | 49 => 41 | 50 => 42 | 57 => 43 | n => n, fun | 22 => 44 | 24 => 47 | 25 => 64 | 3 => 3 | 39 => 71 | 0 => 0 | 53 => 81 | 55 => 83 | 4 => 4 | 46 => 74 | 45 => 73 | 50 => 78 | 5 => 5 | 9 => 9 | 66 => 84 | 70 => 88 | 76 => 90 | 77 => 91 | n => n, fun | n => n⟩
theorem sortHd : Go.Proofs.SlLaysF0.n6 Try.prog sortHd_ren := {
  mixed := by kernel_rfl
  f6 := ⟨Try.f20.name, by decide, Try.func20.trans (congrArg some (by kernel_rfl))⟩
  f14 := ⟨Try.f25.name, by decide, Try.func25.trans (congrArg some (by kernel_rfl))⟩
  f15 := Try.func26.trans (congrArg some (by kernel_rfl))
  f20 := ⟨Try.f28.name, by decide, Try.func28.trans (congrArg some (by kernel_rfl))⟩
  f21 := ⟨Try.f29.name, by decide, Try.func29.trans (congrArg some (by kernel_rfl))⟩
  f22 := ⟨Try.f30.name, by decide, Try.func30.trans (congrArg some (by kernel_rfl))⟩
  f23 := ⟨Try.f31.name, by decide, Try.func31.trans (congrArg some (by kernel_rfl))⟩
  f24 := ⟨Try.f32.name, by decide, Try.func32.trans (congrArg some (by kernel_rfl))⟩
  f25 := ⟨Try.f33.name, by decide, Try.func33.trans (congrArg some (by kernel_rfl))⟩
  f26 := ⟨Try.f34.name, by decide, Try.func34.trans (congrArg some (by kernel_rfl))⟩
  f27 := ⟨Try.f35.name, by decide, Try.func35.trans (congrArg some (by kernel_rfl))⟩
  f28 := Try.func36.trans (congrArg some (by kernel_rfl))
  f29 := Try.func37.trans (congrArg some (by kernel_rfl))
  f46 := ⟨Try.f38.name, by decide, Try.func38.trans (congrArg some (by kernel_rfl))⟩
  f47 := Try.func39.trans (congrArg some (by kernel_rfl))
  f48 := Try.func40.trans (congrArg some (by kernel_rfl))
  f49 := ⟨Try.f41.name, by decide, Try.func41.trans (congrArg some (by kernel_rfl))⟩
  f50 := ⟨Try.f42.name, by decide, Try.func42.trans (congrArg some (by kernel_rfl))⟩
  f57 := ⟨Try.f43.name, by decide, Try.func43.trans (congrArg some (by kernel_rfl))⟩
  t0 := Try.underlying0
  a0 := Try.isAgg0
  z0 := Try.sizeOf0
  v0 := Try.zeroValue0
  t3 := Try.underlying3
  a3 := Try.isAgg3
  z3 := Try.sizeOf3
  v3 := Try.zeroValue3
  t4 := Try.underlying4
  a4 := Try.isAgg4
  z4 := Try.sizeOf4
  v4 := Try.zeroValue4
  t5 := Try.underlying5
  a5 := Try.isAgg5
  z5 := Try.sizeOf5
  v5 := Try.zeroValue5
  t9 := Try.underlying9
  a9 := Try.isAgg9
  z9 := Try.sizeOf9
  v9 := Try.zeroValue9
  t22 := Try.underlying44
  a22 := Try.isAgg44
  z22 := Try.sizeOf44
  v22 := Try.zeroValue44
  t25 := Try.underlying64
  a25 := Try.isAgg64
  z25 := Try.sizeOf64
  v25 := Try.zeroValue64
  t39 := Try.underlying71
  a39 := Try.isAgg71
  z39 := Try.sizeOf71
  v39 := Try.zeroValue71
  t45 := Try.underlying73
  a45 := Try.isAgg73
  z45 := Try.sizeOf73
  v45 := Try.zeroValue73
  t46 := Try.underlying74
  a46 := Try.isAgg74
  z46 := Try.sizeOf74
  v46 := Try.zeroValue74
  t50 := Try.underlying78
  a50 := Try.isAgg78
  z50 := Try.sizeOf78
  v50 := Try.zeroValue78
  t53 := Try.underlying81
  a53 := Try.isAgg81
  z53 := Try.sizeOf81
  v53 := Try.zeroValue81
  t55 := Try.underlying83
  a55 := Try.isAgg83
  z55 := Try.sizeOf83
  v55 := Try.zeroValue83
  t66 := Try.underlying84
  a66 := Try.isAgg84
  z66 := Try.sizeOf84
  v66 := Try.zeroValue84
  t70 := Try.underlying88
  a70 := Try.isAgg88
  z70 := Try.sizeOf88
  v70 := Try.zeroValue88
  t76 := Try.underlying90
  a76 := Try.isAgg90
  z76 := Try.sizeOf90
  v76 := Try.zeroValue90
  t77 := Try.underlying91
  a77 := Try.isAgg91
  z77 := Try.sizeOf91
  v77 := Try.zeroValue91 }

open Go.RowKit Go.Maps Go.Lib Go.Sort
theorem lt_cfH (x y : Int × Int × Hd) : ltOf cfH x y = decide (x.1 < y.1 ∨ x.1 = y.1 ∧ x.2.1 < y.2.1) := by
  unfold ltOf cfH orI Lib.compareInt
  by_cases h1 : x.1 < y.1
  · simp [h1]
  · by_cases h2 : y.1 < x.1
    · have : ¬ x.1 = y.1 := by omega
      simp [h1, h2, this]
    · have : x.1 = y.1 := by omega
      by_cases h3 : x.2.1 < y.2.1
      · simp [this, h3]
      · by_cases h4 : y.2.1 < x.2.1 <;> simp [this, h3, h4]
theorem swoH : SWO (ltOf cfH) where
  irrefl x := by rw [lt_cfH]; simp
  trans x y z h1 h2 := by rw [lt_cfH] at *; simp at *; omega
  ntrans x y z h1 h2 := by rw [lt_cfH] at *; simp at *; omega

theorem flat_get : ∀ (xs : List (Int × Int × Hd)) (i : Nat) (x : Int × Int × Hd) (j : Nat), xs[i]? = some x → j < 6 → (xs.flatMap encH)[i * 6 + j]? = (encH x)[j]?
  | [], i, x, j, h, _ => by simp at h
  | y :: r, 0, x, j, h, hj => by
    simp only [List.getElem?_cons_zero, Option.some.injEq] at h
    subst h
    rw [List.flatMap_cons, Nat.zero_mul, Nat.zero_add, List.getElem?_append_left (by rw [encH_len]; exact hj)]
  | y :: r, i + 1, x, j, h, hj => by
    simp only [List.getElem?_cons_succ] at h
    rw [List.flatMap_cons, List.getElem?_append_right (by rw [encH_len]; omega), encH_len, show (i + 1) * 6 + j - 6 = i * 6 + j by omega]
    exact flat_get r i x j h hj
theorem flatK_at (d : Array (Int × Int × Hd)) (i j : Nat) (hi : i < d.size) (hj : j < 6) : (flatK encH 6 d)[i * 6 + j]! = (encH d[i]!)[j]! := by
  rw [get_flatK _ _ _ _ (by omega), show (i * 6 + j) / 6 = i by omega, show (i * 6 + j) % 6 = j by omega]

theorem holds_own {W : World} {base g cap : Nat} {xs : List (Int × Int × Hd)} (h : W.ownsRow base 47 6 (.slice (some ⟨g, 0, none⟩) xs.length cap) xs.length (xs.flatMap encH)) : HoldsK encH 6 W g 0 xs.toArray := by
  have hc := h.cells (g := g) rfl
  intro t ht
  rw [size_flatK] at ht
  simp only [List.size_toArray] at ht
  have hi : t / 6 < xs.length := by omega
  have hj : t % 6 < 6 := Nat.mod_lt _ (by omega)
  have e := flat_get xs (t / 6) xs[t / 6] (t % 6) (List.getElem?_eq_getElem hi) hj
  have ht6 : t / 6 * 6 + t % 6 = t := by omega
  rw [ht6, show (encH xs[t / 6])[t % 6]? = some ((encH xs[t / 6])[t % 6]'(by rw [encH_len]; exact hj)) from List.getElem?_eq_getElem _] at e
  have c := hc t _ e
  have ea : (⟨g, 0, none⟩ : Addr).add t = ⟨g, 0 + t, none⟩ := by unfold Addr.add; split <;> simp_all
  rw [ea] at c
  refine ⟨?_, ?_⟩
  · rw [c]
    have f := flatK_at xs.toArray (t / 6) (t % 6) (by simpa using hi) hj
    rw [ht6] at f
    show _ = some ((flatK encH 6 xs.toArray)[t]!)
    rw [f]
    have e3 : (encH xs[t / 6])[t % 6]! = (encH xs[t / 6])[t % 6]'(by rw [encH_len]; exact hj) := getElem!_pos _ _ _
    have e4 : xs.toArray[t / 6]! = xs[t / 6] := by simp [hi]
    rw [e4, e3]
  · rcases h.2 with ⟨h1, _⟩ | ⟨g', cap', cur, h1, _, hb, _⟩
    · cases h1
    · cases h1
      simp [World.frozen?, hb]

theorem sortW_below {W : World} {B g n : Nat} {d : Array (Int × Int × Hd)} {os : Array Obj} (hg : B ≤ g) (hB : B ≤ W.heap.size) : RowKit.Below B W (sortWorldK encH 6 W g 0 n d os) where
  os := rfl
  tape := rfl
  output := rfl
  size := by
    show W.heap.size ≤ (sortWorldK encH 6 W g 0 n d os).heap.size
    exact size_sortWorldK_c encH 6 W g 0 n d os
  block := fun k hk => by
    show ((W.heap.modify g _) ++ os)[k]? = _
    rw [Array.getElem?_append_left (by simp; omega), Array.getElem?_modify, if_neg (by omega)]

/-- What All tells. -/
structure AllOut (T : Int → Int → Option Hd) (n B : Nat) (v : Value) (xs : List (Int × Int × Hd)) (w' : World) : Prop where
  tab : ∀ x ∈ xs, T x.1 x.2.1 = some x.2.2
  rise : ∀ (i j : Nat) (x y : Int × Int × Hd), i < j → xs[i]? = some x → xs[j]? = some y → x.1 < y.1 ∨ x.1 = y.1 ∧ x.2.1 < y.2.1
  few : xs.length ≤ n
  row : (v = .slice none 0 0 ∧ xs = []) ∨ ∃ g cap, v = .slice (some ⟨g, 0, none⟩) xs.length cap ∧ B ≤ g ∧ ∀ (i : Nat) (x : Int × Int × Hd) (j : Nat) (u : Value), xs[i]? = some x → (encH x)[j]? = some u → w'.cell? ⟨g, i * 6 + j, none⟩ = some u

theorem bits0 (W : World) : Calls Try.prog 26 #[.int .u64 0] W fun e w' => e = .returned (.int .i64 0) ∧ w' = W :=
  (Any.bits_Len (SlLaysF0.n15.bits (P := Try.prog) (ρ := sortHd_ren) { sortHd with }) 0 W (by omega) (by omega)).mono fun _ _ ⟨he, hw⟩ => ⟨he, hw⟩
theorem ins_nil (W : World) : Calls Try.prog 28 #[.slice none 0 0, .int .i64 0, .int .i64 0, .func (.func 21) #[] #[]] W fun e w' => e = .returned (.tuple #[]) ∧ w' = W := by
  go_enter Try.func28, Try.ntmps28
  go_wp2
  refine wp_loop_rounds 1 ?_
  rw [rounds_succ]
  go_wp2
  go_end0
  exact ⟨rfl, rfl⟩
theorem pdq_nil (W : World) : Calls Try.prog 25 #[.slice none 0 0, .int .i64 0, .int .i64 0, .int .i64 0, .func (.func 21) #[] #[]] W fun e w' => e = .returned (.tuple #[]) ∧ w' = W := by
  go_enter Try.func25, Try.ntmps25
  go_wp2
  refine wp_loop_rounds 1 ?_
  rw [rounds_succ]
  go_wp2_with (go_at_call 28; refine (ins_nil _).mono ?_; rintro e w' ⟨rfl, rfl⟩)
  refine bodyPost_ret (results_none rfl _ _ _) rfl ?_
  exact ⟨rfl, rfl⟩
theorem sort_nil (W : World) : Calls Try.prog 20 #[.slice none 0 0, .func (.func 21) #[] #[]] W fun e w' => e = .returned (.tuple #[]) ∧ w' = W := by
  go_enter Try.func20, Try.ntmps20
  go_wp2_with (first
    | (go_at_call 26; refine (bits0 _).mono ?_; rintro e w' ⟨rfl, rfl⟩)
    | (go_at_call 25; refine (pdq_nil _).mono ?_; rintro e w' ⟨rfl, rfl⟩))
  first
    | exact ⟨rfl, rfl⟩
    | (go_end0; exact ⟨rfl, rfl⟩)

set_option maxHeartbeats 1000000 in
theorem all_any {w : World} {hb mb n : Nat} {hot : Int} {T : Int → Int → Option Hd} (h : HeatT w hb hot mb n T) (hn : n < 100000) :
    Calls Try.prog 14 #[.pointer (some ⟨hb, 0, none⟩)] w fun e w' => ∃ v xs, e = .returned v ∧ AllOut T n w.heap.size v xs w' ∧ RowKit.Below w.heap.size w w' := by
  refine all_walk h hn _ ?_
  intro v xs wr hown hE hlen hB
  have hsz := hB.size
  rcases hown.2 with ⟨rfl, h0⟩ | ⟨g, cap, cur, rfl, hbg, hb, hnc, hcm, hcs, htk⟩
  · refine (sort_nil wr).mono ?_
    rintro e w' ⟨rfl, rfl⟩
    have : xs = [] := List.eq_nil_of_length_eq_zero h0
    subst this
    exact ⟨rfl, _, _, rfl, ⟨by simp, by simp, by simp, .inl ⟨rfl, rfl⟩⟩, hB⟩
  · have hH := holds_own hown
    have hglt : g < wr.heap.size := (Array.getElem?_eq_some_iff.1 hb).1
    have hcon := AnyQ.slices_SortFunc sortHd 6 Try.isAgg47 Try.sizeOf47 encH (fun _ => rfl) encH_one cfH swoH 21 #[] g 0 cap xs.toArray wr (enters_of Try.func21 (by kernel_rfl) rfl) (fun _ _ _ _ x y => closureH x y _) hH hglt (by simp; omega)
    simp only [List.size_toArray] at hcon
    refine hcon.mono ?_
    rintro e w' ⟨rfl, d', m, os, hp, hs, rfl⟩
    obtain ⟨hp1, _, hp3⟩ := hp
    simp only [List.size_toArray] at hp1
    have hperm : d'.toList.Perm xs := by
      have e1 : d'.extract 0 xs.length = d' := by rw [← hp1]; simp
      have e2 : xs.toArray.extract 0 xs.length = xs.toArray := by simp
      rw [e1, e2] at hp3
      simpa using hp3
    have hl : d'.toList.length = xs.length := by simpa using hp1
    have hH2 := holdsK_sortWorldK_c encH 6 wr g 0 xs.toArray d' m os hH hglt (by simpa using hp1)
    refine ⟨rfl, _, d'.toList, rfl, ⟨fun x hx => hE.tab x (hperm.subset hx), ?_, by omega, .inr ⟨g, cap, by rw [hl], by omega, ?_⟩⟩, hB.trans (sortW_below (by omega) (by omega))⟩
    · intro i j x y hij hx hy
      have hi := (List.getElem?_eq_some_iff.1 hx).1
      have hj := (List.getElem?_eq_some_iff.1 hy).1
      have hs' := hs i j (Nat.zero_le _) hij (by omega)
      have ex : d'[i]! = x := by rw [Array.getElem?_toList] at hx; rw [getElem!_def, hx]
      have ey : d'[j]! = y := by rw [Array.getElem?_toList] at hy; rw [getElem!_def, hy]
      rw [ex, ey, lt_cfH] at hs'
      simp only [decide_eq_false_iff_not] at hs'
      have hon := (hperm.pairwise_iff (R := fun x y : Int × Int × Hd => ¬ (x.1 = y.1 ∧ x.2.1 = y.2.1)) (fun {x y} hxy hyx => hxy ⟨hyx.1.symm, hyx.2.symm⟩)).2 hE.once
      have := (List.pairwise_iff_getElem.1 hon) i j hi hj hij
      rw [(List.getElem?_eq_some_iff.1 hx).2, (List.getElem?_eq_some_iff.1 hy).2] at this
      omega
    · intro i x j u hx hu
      have hi : i < d'.size := by have := (List.getElem?_eq_some_iff.1 hx).1; simpa using this
      have hj : j < 6 := by have := (List.getElem?_eq_some_iff.1 hu).1; rwa [encH_len] at this
      have c := (hH2 (i * 6 + j) (by rw [size_flatK]; omega)).1
      rw [flatK_at d' i j hi hj] at c
      have ex : d'[i]! = x := by rw [Array.getElem?_toList] at hx; rw [getElem!_def, hx]
      rw [ex, getElem!_def, hu] at c
      simpa using c
end Go.Proofs.Ytefkifdhjabdiaa
