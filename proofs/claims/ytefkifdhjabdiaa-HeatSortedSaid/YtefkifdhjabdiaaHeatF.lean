/- The walk of HeatSorted. -/
import Derived.Test.YtefkifdhjabdiaaHeatE
import Derived.Test.YtefkifdhjabdiaaHeatA
import Derived.IntWalk
import Derived.Deep.Cut
namespace Go.Proofs.Ytefkifdhjabdiaa
set_option linter.unusedVariables false
set_option linter.unusedSimpArgs false
open Go.RowKit Go.Maps Go.Lib

theorem shl_one (a : Int) (E : Nat) (k : Int) (hk : (2 : Int) ^ E = k) (hE : E ≤ 3) (h0 : 0 ≤ a * k) (h1 : a * k ≤ 1000) : Op.shift .shl .i64 a .i64 (E : Int) = pure (.int .i64 (a * k)) := by
  rw [shift_shl_i64 .i64 a (E : Int) (by omega) (by omega), Int.toNat_natCast, hk, IntWalk.i64_in _ (by omega)]
theorem shl_head {h0 xe xl : Int} (r0 : 0 ≤ h0) (r1 : h0 < 20) (k1 : (xe = 0 ∧ xl = h0 + 1) ∨ (xe = 1 ∧ xl = 2 * (h0 + 1)) ∨ (xe = 2 ∧ xl = 2 * (2 * (h0 + 1))) ∨ (xe = 3 ∧ xl = 2 * (2 * (2 * (h0 + 1))))) : Op.shift .shl .i64 (h0 + 1) .i64 xe = pure (.int .i64 xl) := by
  rcases k1 with ⟨rfl, rfl⟩ | ⟨rfl, rfl⟩ | ⟨rfl, rfl⟩ | ⟨rfl, rfl⟩
  · have := shl_one (h0 + 1) 0 1 rfl (by omega) (by omega) (by omega)
    rw [show (h0 + 1) * 1 = h0 + 1 by omega] at this
    exact this
  · have := shl_one (h0 + 1) 1 2 rfl (by omega) (by omega) (by omega)
    rw [show (h0 + 1) * 2 = 2 * (h0 + 1) by omega] at this
    exact this
  · have := shl_one (h0 + 1) 2 4 rfl (by omega) (by omega) (by omega)
    rw [show (h0 + 1) * 4 = 2 * (2 * (h0 + 1)) by omega] at this
    exact this
  · have := shl_one (h0 + 1) 3 8 rfl (by omega) (by omega) (by omega)
    rw [show (h0 + 1) * 8 = 2 * (2 * (2 * (h0 + 1))) by omega] at this
    exact this

theorem cell_far (w : World) (o : Obj) (n : Nat) (a : Addr) (v : Value) (h : w.cell? a = some v) : ((w.alloc o).drewN n).cell? a = some v := by
  have hl := World.block_lt_of_cell? w _ h
  show (w.alloc o).cell? a = some v
  rw [← h]
  exact World.cell?_of_block (heap_alloc_old w o hl)
/-- Behind a wall: what the walk of a region is not to open. -/
structure Box (p : Prop) : Prop where
  out : p
theorem quiet_box {P : Program} {ops : Array Oper} {C : World → Prop} {Q : Act → Prop} {o : Oper} {rest : List Oper} {a : Act} (h : ∀ K : Act → Prop, (∀ a, Box (wpQuiet P ops C Q rest a) → K a) → if Region.wanted o (yielded ops a.tmps) then o.quiet P a C K else K (a.put o.dst undef)) : Box (wpQuiet P ops C Q (o :: rest) a) :=
  ⟨wpQuiet_step fun K hK => h K fun a hb => hK a hb.out⟩

/-- The loop over the calls. -/
def SRel (w : World) (hb mb n : Nat) (hot : Int) (I : Value) (wr : World) : Prop := ∃ (i : Nat) (T : Int → Int → Option Hd), I = .int .i64 (i : Int) ∧ i ≤ n ∧ HeatT wr hb hot mb i T ∧ Below w.heap.size w wr

set_option maxRecDepth 100000 in
set_option maxHeartbeats 8000000 in
theorem sorted_calls (a0 : Int) (b0 : -9223372036854775808 ≤ a0) (b1 : a0 ≤ 9223372036854775807) (w : World) (A : Option Addr) (n c : Nat) (xs : List (Int × Int × Int)) (hC : rd3.CB w.heap.size w A n xs) (hnc : n ≤ c) (hcm : c ≤ 9223372036854775807) (hn0 : 0 < n) :
    Calls Try.prog 6 #[.int .i64 a0, .slice A n c] w fun e w' => e = .returned (.bool true) ∧ Below w.heap.size w w' := by
  have hC' := Lib.hid hC; clear hC
  obtain ⟨p, hp⟩ : ∃ p, A = some p := by
    obtain ⟨ad, h, _⟩ := hC'.out.2.2 hn0
    exact ⟨ad, h⟩
  subst hp
  obtain ⟨N, hmin, hN1, hN2⟩ : ∃ N : Nat, min (n : Int) 200 = (N : Int) ∧ N ≤ n ∧ N ≤ 200 := ⟨min n 200, by omega, by omega, by omega⟩
  go_enter Try.func6, Try.ntmps6
  go_wp2_with fail
  refine (rest_any a0 20 _ (by omega) (by omega) b0 b1).mono ?_
  rintro e w1 ⟨rfl, rfl⟩
  obtain ⟨r0, r1⟩ := restF_bd a0 20 (by omega)
  generalize restF a0 20 = h0 at r0 r1 ⊢
  go_wp2_with fail
  refine (newT (h0 + 1) _ (by omega) (by omega)).mono ?_
  rintro e w1 ⟨hb, mb, rfl, h1, hB, c1, c2⟩
  obtain ⟨hl1, hl2⟩ := h1.lt
  go_wp2_with fail
  go_loopw [33] (fun I wr => SRel w hb mb N (h0 + 1) I wr) (fun i _ => N - (intOf i).toNat)
  case atStart => exact ⟨0, _, rfl, by omega, h1, hB⟩
  case round =>
    obtain ⟨i, T, rfl, hi, H1, hBw⟩ := hrel
    obtain ⟨hl3, hl4⟩ := H1.lt
    by_cases hlt : i < N
    · obtain ⟨⟨x, y, z⟩, hxi⟩ : ∃ x, xs[i]? = some x := ⟨_, List.getElem?_eq_getElem (by rw [hC'.out.1]; omega)⟩
      obtain ⟨ad', cs, hade, _, _, ⟨_, _, rfl, ⟨rfl, hx⟩, _, _, rfl, ⟨rfl, hy⟩, ⟨rfl, hz⟩⟩, hcl0, hcl1⟩ := (hC'.out.below hBw).elem i _ hxi
      obtain rfl : p = ad' := by injection hade
      have f0 : wr.cell? (p.add (i * 3)) = some (.int .i64 x) := hcl0 _ rfl
      have f1 : wr.cell? ⟨(p.add (i * 3)).block, (p.add (i * 3)).off + 1, none⟩ = some (.int .i64 y) := hcl1 0 _ rfl
      have f2 : wr.cell? ⟨(p.add (i * 3)).block, (p.add (i * 3)).off + 2, none⟩ = some (.int .i64 z) := hcl1 1 _ rfl
      clear hcl0 hcl1 hxi
      have K := Lib.hid hBw
      clear hBw
      have hlz : (i : Int) < (N : Int) := by omega
      have hin : (i : Int) < (n : Int) := by omega
      by_cases hz0 : z = 0
      · subst hz0
        go_wp2_with fail
        refine (turnT (H1.below ((Below.refl _ _).alloc (Nat.le_refl _) _)) x y (by omega)).mono ?_
        rintro e w5 ⟨told, er, T1', rfl, G1, hg1, ht1, hne1⟩
        go_wp2_with fail
        have b5 := (K.out.alloc K.out.size _).grown hg1 (K.out.alloc K.out.size _).size (by intro k hk; cases hk; omega)
        go_roundw
        case rel => exact ⟨i + 1, T1', by go_num, by omega, G1, b5⟩
        case measure => simp [intOf]; omega
      · have hzb : (z == 0) = false := by simp [hz0]
        obtain ⟨good, hgood⟩ : ∃ g, g = (z == 1) := ⟨_, rfl⟩
        go_wp2_with fail
        refine (takenT (H1.below ((Below.refl _ _).alloc (Nat.le_refl _) _)) x y (z == 1) (by omega) (WalkArith.wf_i64 hx) (WalkArith.wf_i64 hy)).mono ?_
        rintro e w5 ⟨rfl, G1, hg1⟩
        go_wp2_with fail
        have b5 := (K.out.alloc K.out.size _).grown hg1 (K.out.alloc K.out.size _).size (by intro k hk; cases hk; omega)
        go_roundw
        case rel => exact ⟨i + 1, _, by go_num, by omega, G1, b5⟩
        case measure => simp [intOf]; omega
    · have hge : ¬ ((i : Int) < (N : Int)) := by omega
      go_wp2_with fail
      refine (all_any H1 (by omega)).mono ?_
      rintro e w2 ⟨v, ys, rfl, hO, hB2⟩
      have hBW := hBw.trans (hB2.mono hBw.size)
      rcases hO.row with ⟨rfl, rfl⟩ | ⟨g, cap, rfl, hg, hcell⟩
      · go_wp2_with fail
        refine wp_loop_rounds 1 ?_
        rw [rounds_succ]
        go_wp2_with fail
        refine (heated_any _).mono ?_
        rintro e w7 ⟨rfl, h7⟩
        go_wp2_with fail
        go_ret
        exact ⟨rfl, hBW.trans (h7.mono hBW.size)⟩
      · obtain ⟨ad, had⟩ : ∃ ad : Addr, ad = ⟨g, 0, none⟩ := ⟨_, rfl⟩
        have hadd : ∀ j : Nat, ad.add (j * 6) = ⟨g, j * 6, none⟩ := by
          intro j; subst had; unfold Addr.add; split <;> simp_all
        have hrow : ∀ (wr' : World), Below w2.heap.size w2 wr' → ∀ (j : Nat) (x : Int × Int × Hd), ys[j]? = some x →
            wr'.cell? (ad.add (j * 6)) = some (.int .i64 x.1) ∧ wr'.cell? ⟨(ad.add (j * 6)).block, (ad.add (j * 6)).off + 1, none⟩ = some (.int .i64 x.2.1) ∧
            wr'.cell? ⟨(ad.add (j * 6)).block, (ad.add (j * 6)).off + 2, none⟩ = some (.int .i64 x.2.2.c) ∧ wr'.cell? ⟨(ad.add (j * 6)).block, (ad.add (j * 6)).off + 3, none⟩ = some (.int .i64 x.2.2.l) ∧
            wr'.cell? ⟨(ad.add (j * 6)).block, (ad.add (j * 6)).off + 4, none⟩ = some (.int .i64 x.2.2.x) ∧ wr'.cell? ⟨(ad.add (j * 6)).block, (ad.add (j * 6)).off + 5, none⟩ = some (.int .i64 x.2.2.s) := by
          intro wr' hb' j x hx
          have k := fun m u hu => hcell j x m u hx hu
          have hlt := World.block_lt_of_cell? w2 _ (k 0 _ rfl)
          have same : ∀ o v, w2.cell? ⟨g, o, none⟩ = some v → wr'.cell? ⟨g, o, none⟩ = some v := fun o v h => by
            rw [← h]; exact World.cell?_of_block (hb'.block g hlt)
          rw [hadd]
          exact ⟨same _ _ (k 0 _ rfl), same _ _ (k 1 _ rfl), same _ _ (k 2 _ rfl), same _ _ (k 3 _ rfl), same _ _ (k 4 _ rfl), same _ _ (k 5 _ rfl)⟩
        rw [← had]
        clear hcell hadd
        have HR := Lib.hid hrow
        clear hrow had
        have hfew := hO.few
        have HH := H1.ok
        go_wp2_with fail
        go_loopw [63] (fun I wr' => ∃ J : Int, I = .int .i64 J ∧ 0 ≤ J ∧ J ≤ (ys.length : Int) ∧ Below w2.heap.size w2 wr') (fun j _ => ys.length - (intOf j).toNat)
        case atStart => exact ⟨0, rfl, by omega, by omega, Below.refl _ _⟩
        case round =>
          obtain ⟨J, rfl, hj0, hj, hBj⟩ := hrel
          by_cases hjz : J < (ys.length : Int)
          · obtain ⟨⟨xf, xa, ⟨xc, xl, xe, xs'⟩⟩, hx⟩ : ∃ x, ys[J.toNat]? = some x := ⟨_, List.getElem?_eq_getElem (by omega)⟩
            have hxm := List.mem_of_getElem? hx
            obtain ⟨k1, k2, k3, k4, k5, k6⟩ := HH _ _ _ (hO.tab _ hxm)
            obtain ⟨f0, f1, f2, f3, f4, f5⟩ := HR.out _ hBj J.toNat _ hx
            simp only at k1 k2 k3 k4 k5 k6 f0 f1 f2 f3 f4 f5
            have h4 : ¬ ((3 : Int) < xe) := by omega
            have hsh : Op.shift .shl .i64 (h0 + 1) .i64 xe = pure (.int .i64 xl) := by
              exact shl_head r0 r1 k1
            have hk6 := k6
            clear k1 k2 k3 k4 k5 k6 hxm
            have HI := Lib.hid hx
            clear hx
            have hJ200 : J ≤ 200 := by omega
            by_cases hjp : (0 : Int) < J
            · obtain ⟨M, hM⟩ : ∃ M : Int, J - 1 = M := ⟨_, rfl⟩
              have hsub : IntKind.i64.wrap (J - 1) = M := by rw [IntWalk.i64_in _ (by omega), hM]
              have hM0 : 0 ≤ M := by omega
              have hM1 : M < (ys.length : Int) := by omega
              obtain ⟨⟨pf, pa, ph⟩, hpx⟩ : ∃ x, ys[M.toNat]? = some x := ⟨_, List.getElem?_eq_getElem (by omega)⟩
              obtain ⟨p0, p1, _⟩ := HR.out _ hBj M.toNat _ hpx
              simp only at p0 p1
              have p0' := fun o n => cell_far wr o n _ _ p0
              have p1' := fun o n => cell_far wr o n _ _ p1
              have hord := hO.rise M.toNat J.toNat _ _ (by omega) hpx HI.out
              simp only at hord
              clear hM hpx
              rcases hord with hlt1 | ⟨heq1, hlt1⟩
              · have hq1 : ¬ (xf < pf) := by omega
                have hq2 : (pf == xf) = false := by simp; omega
                by_cases hs : xs' = 0
                · have hcl : ¬ (xl ≤ xc) := by have := hk6 hs; omega
                  subst hs
                  go_wp2_with fail
                  refine wp_region_quiet_lit (by kernel_rfl) (by kernel_rfl) ?_
                  refine Box.out ?_
                  repeat
                    refine quiet_box (fun K hK => ?_)
                    go_simp
                    refine hK _ ?_
                    clear hK K
                  refine ⟨wpQuiet_nil ?_⟩
                  intro _ hw'
                  obtain ⟨nq, hw''⟩ := hw'
                  subst hw''
                  go_wp2_with fail
                  go_roundw
                  case rel => exact ⟨J + 1, by go_num, by omega, by omega, pw_below_drewN (hBj.alloc hBj.size _) nq⟩
                  case measure => simp [intOf]; omega
                · have hsb : (xs' == 0) = false := by simp [hs]
                  go_wp2_with fail
                  refine wp_region_quiet_lit (by kernel_rfl) (by kernel_rfl) ?_
                  refine Box.out ?_
                  repeat
                    refine quiet_box (fun K hK => ?_)
                    go_simp
                    refine hK _ ?_
                    clear hK K
                  refine ⟨wpQuiet_nil ?_⟩
                  intro _ hw'
                  obtain ⟨nq, hw''⟩ := hw'
                  subst hw''
                  go_wp2_with fail
                  go_roundw
                  case rel => exact ⟨J + 1, by go_num, by omega, by omega, pw_below_drewN (hBj.alloc hBj.size _) nq⟩
                  case measure => simp [intOf]; omega
              · subst heq1
                have hq3 : ¬ (xa ≤ pa) := by omega
                by_cases hs : xs' = 0
                · have hcl : ¬ (xl ≤ xc) := by have := hk6 hs; omega
                  subst hs
                  go_wp2_with fail
                  refine wp_region_quiet_lit (by kernel_rfl) (by kernel_rfl) ?_
                  refine Box.out ?_
                  repeat
                    refine quiet_box (fun K hK => ?_)
                    go_simp
                    refine hK _ ?_
                    clear hK K
                  refine ⟨wpQuiet_nil ?_⟩
                  intro _ hw'
                  obtain ⟨nq, hw''⟩ := hw'
                  subst hw''
                  go_wp2_with fail
                  go_roundw
                  case rel => exact ⟨J + 1, by go_num, by omega, by omega, pw_below_drewN (hBj.alloc hBj.size _) nq⟩
                  case measure => simp [intOf]; omega
                · have hsb : (xs' == 0) = false := by simp [hs]
                  go_wp2_with fail
                  refine wp_region_quiet_lit (by kernel_rfl) (by kernel_rfl) ?_
                  refine Box.out ?_
                  repeat
                    refine quiet_box (fun K hK => ?_)
                    go_simp
                    refine hK _ ?_
                    clear hK K
                  refine ⟨wpQuiet_nil ?_⟩
                  intro _ hw'
                  obtain ⟨nq, hw''⟩ := hw'
                  subst hw''
                  go_wp2_with fail
                  go_roundw
                  case rel => exact ⟨J + 1, by go_num, by omega, by omega, pw_below_drewN (hBj.alloc hBj.size _) nq⟩
                  case measure => simp [intOf]; omega
            · obtain rfl : J = 0 := by omega
              simp only [Int.toNat_zero, Nat.zero_mul, Addr.add_zero'] at f0 f1 f2 f3 f4 f5
              by_cases hs : xs' = 0
              · have hcl : ¬ (xl ≤ xc) := by have := hk6 hs; omega
                subst hs
                go_wp2_with fail
                refine wp_region_quiet_lit (by kernel_rfl) (by kernel_rfl) ?_
                refine Box.out ?_
                repeat
                  refine quiet_box (fun K hK => ?_)
                  go_simp
                  refine hK _ ?_
                  clear hK K
                refine ⟨wpQuiet_nil ?_⟩
                intro _ hw'
                obtain ⟨nq, hw''⟩ := hw'
                subst hw''
                go_wp2_with fail
                go_roundw
                case rel => exact ⟨0 + 1, by go_num, by omega, by omega, pw_below_drewN (hBj.alloc hBj.size _) nq⟩
                case measure => simp [intOf]; omega
              · have hsb : (xs' == 0) = false := by simp [hs]
                go_wp2_with fail
                refine wp_region_quiet_lit (by kernel_rfl) (by kernel_rfl) ?_
                refine Box.out ?_
                repeat
                  refine quiet_box (fun K hK => ?_)
                  go_simp
                  refine hK _ ?_
                  clear hK K
                refine ⟨wpQuiet_nil ?_⟩
                intro _ hw'
                obtain ⟨nq, hw''⟩ := hw'
                subst hw''
                go_wp2_with fail
                go_roundw
                case rel => exact ⟨0 + 1, by go_num, by omega, by omega, pw_below_drewN (hBj.alloc hBj.size _) nq⟩
                case measure => simp [intOf]; omega
          · have hge2 : ¬ (J < (ys.length : Int)) := by omega
            have hBWj := hBW.trans (hBj.mono (by have := hB2.size; have := hBw.size; omega))
            go_wp2_with fail
            refine (heated_any _).mono ?_
            rintro e w7 ⟨rfl, h7⟩
            go_wp2_with fail
            go_ret
            exact ⟨rfl, hBWj.trans (h7.mono hBWj.size)⟩
end Go.Proofs.Ytefkifdhjabdiaa
