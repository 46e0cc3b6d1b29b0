/- The walk of 'alias.Apart'. -/
import Derived.Test.YtefkifdhjabdiaaIr2
import Derived.Test.YtefkifdhjabdiaaIrT
import Derived.Deep.QuietTactic
namespace Go.Proofs.Ytefkifdhjabdiaa
set_option linter.unusedVariables false
set_option linter.unusedSimpArgs false
open Go.RowKit

/-- Of two values, the first ahead of the second. -/
def apartG (loop : Int) (i j : Nat) (x y : Ins) : Bool :=
  if ¬ tellsF x.op = true ∨ ¬ tellsF y.op = true then false
  else if (i : Int) < loop ∧ loop ≤ (j : Int) then freshB x.op && freshB y.op
  else freshB y.op || (freshB x.op && beforeB y.op)
def apartF (xs : List Ins) (loop lo hi : Int) : Bool :=
  if lo < 0 ∨ (xs.length : Int) ≤ hi ∨ lo = hi then false
  else match xs[lo.toNat]?, xs[hi.toNat]? with
    | some x, some y => apartG loop lo.toNat hi.toNat x y
    | _, _ => false

set_option maxRecDepth 100000 in
set_option maxHeartbeats 4000000 in
theorem apart_le (w : World) (ok : Nat → Prop) (A : Option Addr) (n c : Nat) (xs : List Ins) (hC : rdIns.C ok w A n xs) (fn at_ loop : Int) (ve t0 t1 t2 t3 b0 b1 b2 b3 : Value) (a b : Int) (hab : a ≤ b) :
    Calls Try.prog 13 #[.agg #[.int .i64 fn, .int .i64 at_, .int .i64 loop, .slice A n c, ve, t0, t1, t2, t3, b0, b1, b2, b3], .int .i64 a, .int .i64 b] w fun e w' => e = .returned (.bool (apartF xs loop a b)) ∧ Below w.heap.size w w' := by
  have hn := hC.1
  have hn2 := hC.2.1
  have HC := Lib.hid hC
  have Hn := Lib.hid hn
  clear hC hn
  have B0 : ∀ o, Below w.heap.size w (w.alloc o) := fun o => (Below.refl _ _).alloc (Nat.le_refl _) _
  by_cases c1 : a < 0
  · have hF : apartF xs loop a b = false := by simp [apartF, c1]
    rw [hF]
    clear hF
    go_enter Try.func13, Try.ntmps13
    go_wp2
    all_goals (go_ret; exact ⟨rfl, B0 _⟩)
  by_cases c2 : (n : Int) ≤ b
  · have hF : apartF xs loop a b = false := by simp [apartF, Hn.out, c2]
    rw [hF]
    clear hF
    go_enter Try.func13, Try.ntmps13
    go_wp2
    all_goals (go_ret; exact ⟨rfl, B0 _⟩)
  by_cases c3 : a = b
  · have hF : apartF xs loop a b = false := by simp [apartF, c3]
    rw [hF]
    clear hF
    subst c3
    go_enter Try.func13, Try.ntmps13
    go_wp2
    all_goals (go_ret; exact ⟨rfl, B0 _⟩)
  obtain ⟨i, rfl⟩ := Int.eq_ofNat_of_zero_le (show 0 ≤ a by omega)
  obtain ⟨j, rfl⟩ := Int.eq_ofNat_of_zero_le (show 0 ≤ b by omega)
  have hij : ((i : Int) == (j : Int)) = false := by simpa using c3
  obtain ⟨x, hx⟩ : ∃ x, xs[i]? = some x := ⟨_, List.getElem?_eq_getElem (by rw [Hn.out]; omega)⟩
  obtain ⟨y, hy⟩ : ∃ y, xs[j]? = some y := ⟨_, List.getElem?_eq_getElem (by rw [Hn.out]; omega)⟩
  have hF : apartF xs loop (i : Int) (j : Int) = apartG loop i j x y := by
    have c1' : ¬ ((i : Int) < 0 ∨ (xs.length : Int) ≤ j ∨ (i : Int) = j) := by rw [Hn.out]; omega
    unfold apartF
    rw [if_neg c1']
    simp [hx, hy]
  rw [hF]
  clear hF
  obtain ⟨ad, cs, rfl, _, had, ⟨rfl, _⟩, hx0, _⟩ := HC.out.elem i _ hx
  obtain ⟨ad', cs, hade, _, _, ⟨rfl, _⟩, hy0, _⟩ := HC.out.elem j _ hy
  obtain rfl : ad = ad' := by injection hade
  have ex : w.cell? (ad.add (i * 8)) = some (.int .i64 x.op) := hx0 _ rfl
  have ey : w.cell? (ad.add (j * 8)) = some (.int .i64 y.op) := hy0 _ rfl
  have hbx : (ad.add (i * 8)).block < w.heap.size := by rw [Rd.block_add]; exact had
  have hby : (ad.add (j * 8)).block < w.heap.size := by rw [Rd.block_add]; exact had
  clear hx0 hy0 hx hy hade
  have Hex := Lib.hid ex
  have Hey := Lib.hid ey
  obtain ⟨bx, W0, hW0⟩ : ∃ bx W0, bx = (.cells #[.int .i64 fn, .int .i64 at_, .int .i64 loop, .slice (some ad) n c, ve, t0, t1, t2, t3, b0, b1, b2, b3] 42 : Obj) ∧ W0 = w.alloc bx := ⟨_, _, rfl, rfl⟩
  have facts : ∀ w1, Below (w.heap.size + 1) W0 w1 → w1.cell? ⟨w.heap.size, 3, none⟩ = some (.slice (some ad) n c) ∧ w1.cell? ⟨w.heap.size, 2, none⟩ = some (.int .i64 loop) ∧ w1.cell? (ad.add (i * 8)) = some (.int .i64 x.op) ∧ w1.cell? (ad.add (j * 8)) = some (.int .i64 y.op) ∧ w.heap.size < w1.heap.size := fun w1 h1 => by
    obtain ⟨rfl, rfl⟩ := hW0
    refine ⟨?_, ?_, ?_, ?_, ?_⟩
    · rw [h1.cell (p := ⟨w.heap.size, 3, none⟩) (by simp)]; simp
    · rw [h1.cell (p := ⟨w.heap.size, 2, none⟩) (by simp)]; simp
    · rw [h1.cell (by omega), World.cell?_alloc_lt _ _ _ hbx]; exact Hex.out
    · rw [h1.cell (by omega), World.cell?_alloc_lt _ _ _ hby]; exact Hey.out
    · have := h1.size; simp at this; omega
  have HF := Lib.hid facts
  have HW0 := Lib.hid hW0
  clear facts hW0
  by_cases tx : tellsF x.op = true
  · by_cases ty : tellsF y.op = true
    go_enter Try.func13, Try.ntmps13
    go_wp2_with fail
    refine (tells_any x.op _).mono ?_
    rintro e w1 ⟨rfl, h1⟩
    have K1 : Below (w.heap.size + 1) W0 w1 := by obtain ⟨hb, hW⟩ := HW0.out; rw [hW, hb]; simpa using h1
    obtain ⟨f1, f2, f3, f4, f5⟩ := HF.out w1 K1
    have L1 := Lib.hid K1
    clear h1 K1
    go_wp2_with fail
    refine (tells_any y.op _).mono ?_
    rintro e w2 ⟨rfl, h2⟩
    have K2 : Below (w.heap.size + 1) W0 w2 := L1.out.trans (h2.mono (by omega))
    obtain ⟨g1, g2, g3, g4, g5⟩ := HF.out w2 K2
    have L2 := Lib.hid K2
    clear h2 K2 f1 f2 f3 f4 f5
    go_wp2_with fail
    go_quiet (fail)
    have L3 : Hid (Below (w.heap.size + 1) W0 (w2.drewN nq)) := Lib.hid ⟨L2.out.os, L2.out.tape, L2.out.output, L2.out.size, L2.out.block⟩
    have K0 : Below w.heap.size w (w2.drewN nq) := by obtain ⟨hb, hW⟩ := HW0.out; have := L3.out; rw [hW] at this; exact (B0 _).trans (this.mono (by omega))
    have KK := Lib.hid K0
    clear K0
    clear L2 L3
    by_cases q : (i : Int) < loop ∧ loop ≤ (j : Int)
    · obtain ⟨q1, q2⟩ := q
      cases fx : freshB x.op with
      | false =>
        have GG := Lib.hid (show apartG loop i j x y = false by simp [apartG, tx, ty, q1, q2, fx])
        go_wp2_with fail
        refine (fresh_any x.op _).mono ?_
        rintro e w3 ⟨rfl, rfl⟩
        go_wp2_with fail
        go_ret
        exact ⟨by rw [GG.out]; first | done | rfl, KK.out⟩
      | true =>
        cases fy : freshB y.op with
        | false =>
          have GG := Lib.hid (show apartG loop i j x y = false by simp [apartG, tx, ty, q1, q2, fx, fy])
          go_wp2_with fail
          refine (fresh_any x.op _).mono ?_
          rintro e w3 ⟨rfl, rfl⟩
          go_wp2_with fail
          refine (fresh_any y.op _).mono ?_
          rintro e w3 ⟨rfl, rfl⟩
          go_wp2_with fail
          go_ret
          exact ⟨by rw [GG.out]; first | done | rfl, KK.out⟩
        | true =>
          have GG := Lib.hid (show apartG loop i j x y = true by simp [apartG, tx, ty, q1, q2, fx, fy])
          go_wp2_with fail
          refine (fresh_any x.op _).mono ?_
          rintro e w3 ⟨rfl, rfl⟩
          go_wp2_with fail
          refine (fresh_any y.op _).mono ?_
          rintro e w3 ⟨rfl, rfl⟩
          go_wp2_with fail
          go_ret
          exact ⟨by rw [GG.out]; first | done | rfl, KK.out⟩
    · have G0 := Lib.hid (show apartG loop i j x y = (freshB y.op || (freshB x.op && beforeB y.op)) by simp only [apartG, tx, ty, if_neg q]; simp)
      by_cases q1 : (i : Int) < loop
      · have q2 : (j : Int) < loop := by omega
        cases fy : freshB y.op with
        | true =>
          have GG := Lib.hid (show apartG loop i j x y = true by rw [G0.out, fy]; rfl)
          go_wp2_with fail
          refine (fresh_any y.op _).mono ?_
          rintro e w3 ⟨rfl, rfl⟩
          go_wp2_with fail
          go_ret
          exact ⟨by rw [GG.out]; first | done | rfl, KK.out⟩
        | false =>
          cases fx : freshB x.op with
          | false =>
            have GG := Lib.hid (show apartG loop i j x y = false by rw [G0.out, fy, fx]; rfl)
            go_wp2_with fail
            refine (fresh_any y.op _).mono ?_
            rintro e w3 ⟨rfl, rfl⟩
            go_wp2_with fail
            refine (fresh_any x.op _).mono ?_
            rintro e w3 ⟨rfl, rfl⟩
            go_wp2_with fail
            go_ret
            exact ⟨by rw [GG.out]; first | done | rfl, KK.out⟩
          | true =>
            cases bf : beforeB y.op with
            | false =>
              have GG := Lib.hid (show apartG loop i j x y = false by rw [G0.out, fy, fx, bf]; rfl)
              go_wp2_with fail
              refine (fresh_any y.op _).mono ?_
              rintro e w3 ⟨rfl, rfl⟩
              go_wp2_with fail
              refine (fresh_any x.op _).mono ?_
              rintro e w3 ⟨rfl, rfl⟩
              go_wp2_with fail
              refine (before_any y.op _).mono ?_
              rintro e w3 ⟨rfl, rfl⟩
              go_wp2_with fail
              go_ret
              exact ⟨by rw [GG.out]; first | done | rfl, KK.out⟩
            | true =>
              have GG := Lib.hid (show apartG loop i j x y = true by rw [G0.out, fy, fx, bf]; rfl)
              go_wp2_with fail
              refine (fresh_any y.op _).mono ?_
              rintro e w3 ⟨rfl, rfl⟩
              go_wp2_with fail
              refine (fresh_any x.op _).mono ?_
              rintro e w3 ⟨rfl, rfl⟩
              go_wp2_with fail
              refine (before_any y.op _).mono ?_
              rintro e w3 ⟨rfl, rfl⟩
              go_wp2_with fail
              go_ret
              exact ⟨by rw [GG.out]; first | done | rfl, KK.out⟩
      · have q1' : loop ≤ (i : Int) := by omega
        cases fy : freshB y.op with
        | true =>
          have GG := Lib.hid (show apartG loop i j x y = true by rw [G0.out, fy]; rfl)
          go_wp2_with fail
          refine (fresh_any y.op _).mono ?_
          rintro e w3 ⟨rfl, rfl⟩
          go_wp2_with fail
          go_ret
          exact ⟨by rw [GG.out]; first | done | rfl, KK.out⟩
        | false =>
          cases fx : freshB x.op with
          | false =>
            have GG := Lib.hid (show apartG loop i j x y = false by rw [G0.out, fy, fx]; rfl)
            go_wp2_with fail
            refine (fresh_any y.op _).mono ?_
            rintro e w3 ⟨rfl, rfl⟩
            go_wp2_with fail
            refine (fresh_any x.op _).mono ?_
            rintro e w3 ⟨rfl, rfl⟩
            go_wp2_with fail
            go_ret
            exact ⟨by rw [GG.out]; first | done | rfl, KK.out⟩
          | true =>
            cases bf : beforeB y.op with
            | false =>
              have GG := Lib.hid (show apartG loop i j x y = false by rw [G0.out, fy, fx, bf]; rfl)
              go_wp2_with fail
              refine (fresh_any y.op _).mono ?_
              rintro e w3 ⟨rfl, rfl⟩
              go_wp2_with fail
              refine (fresh_any x.op _).mono ?_
              rintro e w3 ⟨rfl, rfl⟩
              go_wp2_with fail
              refine (before_any y.op _).mono ?_
              rintro e w3 ⟨rfl, rfl⟩
              go_wp2_with fail
              go_ret
              exact ⟨by rw [GG.out]; first | done | rfl, KK.out⟩
            | true =>
              have GG := Lib.hid (show apartG loop i j x y = true by rw [G0.out, fy, fx, bf]; rfl)
              go_wp2_with fail
              refine (fresh_any y.op _).mono ?_
              rintro e w3 ⟨rfl, rfl⟩
              go_wp2_with fail
              refine (fresh_any x.op _).mono ?_
              rintro e w3 ⟨rfl, rfl⟩
              go_wp2_with fail
              refine (before_any y.op _).mono ?_
              rintro e w3 ⟨rfl, rfl⟩
              go_wp2_with fail
              go_ret
              exact ⟨by rw [GG.out]; first | done | rfl, KK.out⟩
    · have ty : tellsF y.op = false := by simpa using ty
      have GG := Lib.hid (show apartG loop i j x y = false by simp [apartG, ty])
      go_enter Try.func13, Try.ntmps13
      go_wp2_with fail
      refine (tells_any x.op _).mono ?_
      rintro e w1 ⟨rfl, h1⟩
      have K1 : Below (w.heap.size + 1) W0 w1 := by obtain ⟨hb, hW⟩ := HW0.out; rw [hW, hb]; simpa using h1
      obtain ⟨f1, f2, f3, f4, f5⟩ := HF.out w1 K1
      have L1 := Lib.hid K1
      clear h1 K1
      go_wp2_with fail
      refine (tells_any y.op _).mono ?_
      rintro e w2 ⟨rfl, h2⟩
      have K2 : Below (w.heap.size + 1) W0 w2 := L1.out.trans (h2.mono (by omega))
      obtain ⟨g1, g2, g3, g4, g5⟩ := HF.out w2 K2
      have L2 := Lib.hid K2
      clear h2 K2 f1 f2 f3 f4 f5
      go_wp2_with fail
      all_goals (go_ret; exact ⟨by rw [GG.out]; first | done | rfl, by obtain ⟨hb, hW⟩ := HW0.out; have := L2.out; rw [hW] at this; exact (B0 _).trans (this.mono (by omega))⟩)
  · have tx : tellsF x.op = false := by simpa using tx
    have GG := Lib.hid (show apartG loop i j x y = false by simp [apartG, tx])
    go_enter Try.func13, Try.ntmps13
    go_wp2_with fail
    refine (tells_any x.op _).mono ?_
    rintro e w1 ⟨rfl, h1⟩
    have K1 : Below (w.heap.size + 1) W0 w1 := by obtain ⟨hb, hW⟩ := HW0.out; rw [hW, hb]; simpa using h1
    obtain ⟨f1, f2, f3, f4, f5⟩ := HF.out w1 K1
    have L1 := Lib.hid K1
    clear h1 K1
    go_wp2_with fail
    go_wp2_with fail
    all_goals (go_ret; exact ⟨by rw [GG.out]; first | done | rfl, by obtain ⟨hb, hW⟩ := HW0.out; have := L1.out; rw [hW] at this; exact (B0 _).trans (this.mono (by omega))⟩)

set_option maxRecDepth 100000 in
set_option maxHeartbeats 4000000 in
theorem apart_gt (w : World) (ok : Nat → Prop) (A : Option Addr) (n c : Nat) (xs : List Ins) (hC : rdIns.C ok w A n xs) (fn at_ loop : Int) (ve t0 t1 t2 t3 b0 b1 b2 b3 : Value) (a b : Int) (hab : b < a) :
    Calls Try.prog 13 #[.agg #[.int .i64 fn, .int .i64 at_, .int .i64 loop, .slice A n c, ve, t0, t1, t2, t3, b0, b1, b2, b3], .int .i64 a, .int .i64 b] w fun e w' => e = .returned (.bool (apartF xs loop b a)) ∧ Below w.heap.size w w' := by
  have hn := hC.1
  have hn2 := hC.2.1
  have HC := Lib.hid hC
  have Hn := Lib.hid hn
  clear hC hn
  have B0 : ∀ o, Below w.heap.size w (w.alloc o) := fun o => (Below.refl _ _).alloc (Nat.le_refl _) _
  by_cases c1 : b < 0
  · have hF : apartF xs loop b a = false := by simp [apartF, c1]
    rw [hF]
    clear hF
    go_enter Try.func13, Try.ntmps13
    go_wp2
    all_goals (go_ret; exact ⟨rfl, B0 _⟩)
  by_cases c2 : (n : Int) ≤ a
  · have hF : apartF xs loop b a = false := by simp [apartF, Hn.out, c2]
    rw [hF]
    clear hF
    go_enter Try.func13, Try.ntmps13
    go_wp2
    all_goals (go_ret; exact ⟨rfl, B0 _⟩)
  by_cases c3 : b = a
  · exact absurd c3 (by omega)
  obtain ⟨i, rfl⟩ := Int.eq_ofNat_of_zero_le (show 0 ≤ b by omega)
  obtain ⟨j, rfl⟩ := Int.eq_ofNat_of_zero_le (show 0 ≤ a by omega)
  have hij : ((i : Int) == (j : Int)) = false := by simpa using c3
  obtain ⟨x, hx⟩ : ∃ x, xs[i]? = some x := ⟨_, List.getElem?_eq_getElem (by rw [Hn.out]; omega)⟩
  obtain ⟨y, hy⟩ : ∃ y, xs[j]? = some y := ⟨_, List.getElem?_eq_getElem (by rw [Hn.out]; omega)⟩
  have hF : apartF xs loop (i : Int) (j : Int) = apartG loop i j x y := by
    have c1' : ¬ ((i : Int) < 0 ∨ (xs.length : Int) ≤ j ∨ (i : Int) = j) := by rw [Hn.out]; omega
    unfold apartF
    rw [if_neg c1']
    simp [hx, hy]
  rw [hF]
  clear hF
  obtain ⟨ad, cs, rfl, _, had, ⟨rfl, _⟩, hx0, _⟩ := HC.out.elem i _ hx
  obtain ⟨ad', cs, hade, _, _, ⟨rfl, _⟩, hy0, _⟩ := HC.out.elem j _ hy
  obtain rfl : ad = ad' := by injection hade
  have ex : w.cell? (ad.add (i * 8)) = some (.int .i64 x.op) := hx0 _ rfl
  have ey : w.cell? (ad.add (j * 8)) = some (.int .i64 y.op) := hy0 _ rfl
  have hbx : (ad.add (i * 8)).block < w.heap.size := by rw [Rd.block_add]; exact had
  have hby : (ad.add (j * 8)).block < w.heap.size := by rw [Rd.block_add]; exact had
  clear hx0 hy0 hx hy hade
  have Hex := Lib.hid ex
  have Hey := Lib.hid ey
  obtain ⟨bx, W0, hW0⟩ : ∃ bx W0, bx = (.cells #[.int .i64 fn, .int .i64 at_, .int .i64 loop, .slice (some ad) n c, ve, t0, t1, t2, t3, b0, b1, b2, b3] 42 : Obj) ∧ W0 = w.alloc bx := ⟨_, _, rfl, rfl⟩
  have facts : ∀ w1, Below (w.heap.size + 1) W0 w1 → w1.cell? ⟨w.heap.size, 3, none⟩ = some (.slice (some ad) n c) ∧ w1.cell? ⟨w.heap.size, 2, none⟩ = some (.int .i64 loop) ∧ w1.cell? (ad.add (i * 8)) = some (.int .i64 x.op) ∧ w1.cell? (ad.add (j * 8)) = some (.int .i64 y.op) ∧ w.heap.size < w1.heap.size := fun w1 h1 => by
    obtain ⟨rfl, rfl⟩ := hW0
    refine ⟨?_, ?_, ?_, ?_, ?_⟩
    · rw [h1.cell (p := ⟨w.heap.size, 3, none⟩) (by simp)]; simp
    · rw [h1.cell (p := ⟨w.heap.size, 2, none⟩) (by simp)]; simp
    · rw [h1.cell (by omega), World.cell?_alloc_lt _ _ _ hbx]; exact Hex.out
    · rw [h1.cell (by omega), World.cell?_alloc_lt _ _ _ hby]; exact Hey.out
    · have := h1.size; simp at this; omega
  have HF := Lib.hid facts
  have HW0 := Lib.hid hW0
  clear facts hW0
  by_cases tx : tellsF x.op = true
  · by_cases ty : tellsF y.op = true
    go_enter Try.func13, Try.ntmps13
    go_wp2_with fail
    refine (tells_any x.op _).mono ?_
    rintro e w1 ⟨rfl, h1⟩
    have K1 : Below (w.heap.size + 1) W0 w1 := by obtain ⟨hb, hW⟩ := HW0.out; rw [hW, hb]; simpa using h1
    obtain ⟨f1, f2, f3, f4, f5⟩ := HF.out w1 K1
    have L1 := Lib.hid K1
    clear h1 K1
    go_wp2_with fail
    refine (tells_any y.op _).mono ?_
    rintro e w2 ⟨rfl, h2⟩
    have K2 : Below (w.heap.size + 1) W0 w2 := L1.out.trans (h2.mono (by omega))
    obtain ⟨g1, g2, g3, g4, g5⟩ := HF.out w2 K2
    have L2 := Lib.hid K2
    clear h2 K2 f1 f2 f3 f4 f5
    go_wp2_with fail
    go_quiet (fail)
    have L3 : Hid (Below (w.heap.size + 1) W0 (w2.drewN nq)) := Lib.hid ⟨L2.out.os, L2.out.tape, L2.out.output, L2.out.size, L2.out.block⟩
    have K0 : Below w.heap.size w (w2.drewN nq) := by obtain ⟨hb, hW⟩ := HW0.out; have := L3.out; rw [hW] at this; exact (B0 _).trans (this.mono (by omega))
    have KK := Lib.hid K0
    clear K0
    clear L2 L3
    by_cases q : (i : Int) < loop ∧ loop ≤ (j : Int)
    · obtain ⟨q1, q2⟩ := q
      cases fx : freshB x.op with
      | false =>
        have GG := Lib.hid (show apartG loop i j x y = false by simp [apartG, tx, ty, q1, q2, fx])
        go_wp2_with fail
        refine (fresh_any x.op _).mono ?_
        rintro e w3 ⟨rfl, rfl⟩
        go_wp2_with fail
        go_ret
        exact ⟨by rw [GG.out]; first | done | rfl, KK.out⟩
      | true =>
        cases fy : freshB y.op with
        | false =>
          have GG := Lib.hid (show apartG loop i j x y = false by simp [apartG, tx, ty, q1, q2, fx, fy])
          go_wp2_with fail
          refine (fresh_any x.op _).mono ?_
          rintro e w3 ⟨rfl, rfl⟩
          go_wp2_with fail
          refine (fresh_any y.op _).mono ?_
          rintro e w3 ⟨rfl, rfl⟩
          go_wp2_with fail
          go_ret
          exact ⟨by rw [GG.out]; first | done | rfl, KK.out⟩
        | true =>
          have GG := Lib.hid (show apartG loop i j x y = true by simp [apartG, tx, ty, q1, q2, fx, fy])
          go_wp2_with fail
          refine (fresh_any x.op _).mono ?_
          rintro e w3 ⟨rfl, rfl⟩
          go_wp2_with fail
          refine (fresh_any y.op _).mono ?_
          rintro e w3 ⟨rfl, rfl⟩
          go_wp2_with fail
          go_ret
          exact ⟨by rw [GG.out]; first | done | rfl, KK.out⟩
    · have G0 := Lib.hid (show apartG loop i j x y = (freshB y.op || (freshB x.op && beforeB y.op)) by simp only [apartG, tx, ty, if_neg q]; simp)
      by_cases q1 : (i : Int) < loop
      · have q2 : (j : Int) < loop := by omega
        cases fy : freshB y.op with
        | true =>
          have GG := Lib.hid (show apartG loop i j x y = true by rw [G0.out, fy]; rfl)
          go_wp2_with fail
          refine (fresh_any y.op _).mono ?_
          rintro e w3 ⟨rfl, rfl⟩
          go_wp2_with fail
          go_ret
          exact ⟨by rw [GG.out]; first | done | rfl, KK.out⟩
        | false =>
          cases fx : freshB x.op with
          | false =>
            have GG := Lib.hid (show apartG loop i j x y = false by rw [G0.out, fy, fx]; rfl)
            go_wp2_with fail
            refine (fresh_any y.op _).mono ?_
            rintro e w3 ⟨rfl, rfl⟩
            go_wp2_with fail
            refine (fresh_any x.op _).mono ?_
            rintro e w3 ⟨rfl, rfl⟩
            go_wp2_with fail
            go_ret
            exact ⟨by rw [GG.out]; first | done | rfl, KK.out⟩
          | true =>
            cases bf : beforeB y.op with
            | false =>
              have GG := Lib.hid (show apartG loop i j x y = false by rw [G0.out, fy, fx, bf]; rfl)
              go_wp2_with fail
              refine (fresh_any y.op _).mono ?_
              rintro e w3 ⟨rfl, rfl⟩
              go_wp2_with fail
              refine (fresh_any x.op _).mono ?_
              rintro e w3 ⟨rfl, rfl⟩
              go_wp2_with fail
              refine (before_any y.op _).mono ?_
              rintro e w3 ⟨rfl, rfl⟩
              go_wp2_with fail
              go_ret
              exact ⟨by rw [GG.out]; first | done | rfl, KK.out⟩
            | true =>
              have GG := Lib.hid (show apartG loop i j x y = true by rw [G0.out, fy, fx, bf]; rfl)
              go_wp2_with fail
              refine (fresh_any y.op _).mono ?_
              rintro e w3 ⟨rfl, rfl⟩
              go_wp2_with fail
              refine (fresh_any x.op _).mono ?_
              rintro e w3 ⟨rfl, rfl⟩
              go_wp2_with fail
              refine (before_any y.op _).mono ?_
              rintro e w3 ⟨rfl, rfl⟩
              go_wp2_with fail
              go_ret
              exact ⟨by rw [GG.out]; first | done | rfl, KK.out⟩
      · have q1' : loop ≤ (i : Int) := by omega
        cases fy : freshB y.op with
        | true =>
          have GG := Lib.hid (show apartG loop i j x y = true by rw [G0.out, fy]; rfl)
          go_wp2_with fail
          refine (fresh_any y.op _).mono ?_
          rintro e w3 ⟨rfl, rfl⟩
          go_wp2_with fail
          go_ret
          exact ⟨by rw [GG.out]; first | done | rfl, KK.out⟩
        | false =>
          cases fx : freshB x.op with
          | false =>
            have GG := Lib.hid (show apartG loop i j x y = false by rw [G0.out, fy, fx]; rfl)
            go_wp2_with fail
            refine (fresh_any y.op _).mono ?_
            rintro e w3 ⟨rfl, rfl⟩
            go_wp2_with fail
            refine (fresh_any x.op _).mono ?_
            rintro e w3 ⟨rfl, rfl⟩
            go_wp2_with fail
            go_ret
            exact ⟨by rw [GG.out]; first | done | rfl, KK.out⟩
          | true =>
            cases bf : beforeB y.op with
            | false =>
              have GG := Lib.hid (show apartG loop i j x y = false by rw [G0.out, fy, fx, bf]; rfl)
              go_wp2_with fail
              refine (fresh_any y.op _).mono ?_
              rintro e w3 ⟨rfl, rfl⟩
              go_wp2_with fail
              refine (fresh_any x.op _).mono ?_
              rintro e w3 ⟨rfl, rfl⟩
              go_wp2_with fail
              refine (before_any y.op _).mono ?_
              rintro e w3 ⟨rfl, rfl⟩
              go_wp2_with fail
              go_ret
              exact ⟨by rw [GG.out]; first | done | rfl, KK.out⟩
            | true =>
              have GG := Lib.hid (show apartG loop i j x y = true by rw [G0.out, fy, fx, bf]; rfl)
              go_wp2_with fail
              refine (fresh_any y.op _).mono ?_
              rintro e w3 ⟨rfl, rfl⟩
              go_wp2_with fail
              refine (fresh_any x.op _).mono ?_
              rintro e w3 ⟨rfl, rfl⟩
              go_wp2_with fail
              refine (before_any y.op _).mono ?_
              rintro e w3 ⟨rfl, rfl⟩
              go_wp2_with fail
              go_ret
              exact ⟨by rw [GG.out]; first | done | rfl, KK.out⟩
    · have ty : tellsF y.op = false := by simpa using ty
      have GG := Lib.hid (show apartG loop i j x y = false by simp [apartG, ty])
      go_enter Try.func13, Try.ntmps13
      go_wp2_with fail
      refine (tells_any x.op _).mono ?_
      rintro e w1 ⟨rfl, h1⟩
      have K1 : Below (w.heap.size + 1) W0 w1 := by obtain ⟨hb, hW⟩ := HW0.out; rw [hW, hb]; simpa using h1
      obtain ⟨f1, f2, f3, f4, f5⟩ := HF.out w1 K1
      have L1 := Lib.hid K1
      clear h1 K1
      go_wp2_with fail
      refine (tells_any y.op _).mono ?_
      rintro e w2 ⟨rfl, h2⟩
      have K2 : Below (w.heap.size + 1) W0 w2 := L1.out.trans (h2.mono (by omega))
      obtain ⟨g1, g2, g3, g4, g5⟩ := HF.out w2 K2
      have L2 := Lib.hid K2
      clear h2 K2 f1 f2 f3 f4 f5
      go_wp2_with fail
      all_goals (go_ret; exact ⟨by rw [GG.out]; first | done | rfl, by obtain ⟨hb, hW⟩ := HW0.out; have := L2.out; rw [hW] at this; exact (B0 _).trans (this.mono (by omega))⟩)
  · have tx : tellsF x.op = false := by simpa using tx
    have GG := Lib.hid (show apartG loop i j x y = false by simp [apartG, tx])
    go_enter Try.func13, Try.ntmps13
    go_wp2_with fail
    refine (tells_any x.op _).mono ?_
    rintro e w1 ⟨rfl, h1⟩
    have K1 : Below (w.heap.size + 1) W0 w1 := by obtain ⟨hb, hW⟩ := HW0.out; rw [hW, hb]; simpa using h1
    obtain ⟨f1, f2, f3, f4, f5⟩ := HF.out w1 K1
    have L1 := Lib.hid K1
    clear h1 K1
    go_wp2_with fail
    go_wp2_with fail
    all_goals (go_ret; exact ⟨by rw [GG.out]; first | done | rfl, by obtain ⟨hb, hW⟩ := HW0.out; have := L1.out; rw [hW] at this; exact (B0 _).trans (this.mono (by omega))⟩)

theorem apart_any (w : World) (ok : Nat → Prop) (A : Option Addr) (n c : Nat) (xs : List Ins) (hC : rdIns.C ok w A n xs) (fn at_ loop : Int) (ve t0 t1 t2 t3 b0 b1 b2 b3 : Value) (a b : Int) :
    Calls Try.prog 13 #[.agg #[.int .i64 fn, .int .i64 at_, .int .i64 loop, .slice A n c, ve, t0, t1, t2, t3, b0, b1, b2, b3], .int .i64 a, .int .i64 b] w fun e w' => e = .returned (.bool (apartF xs loop (min a b) (max a b))) ∧ Below w.heap.size w w' := by
  by_cases h : a ≤ b
  · rw [show min a b = a by omega, show max a b = b by omega]
    exact apart_le w ok A n c xs hC fn at_ loop ve t0 t1 t2 t3 b0 b1 b2 b3 a b h
  · rw [show min a b = b by omega, show max a b = a by omega]
    exact apart_gt w ok A n c xs hC fn at_ loop ve t0 t1 t2 t3 b0 b1 b2 b3 a b (by omega)
end Go.Proofs.Ytefkifdhjabdiaa
