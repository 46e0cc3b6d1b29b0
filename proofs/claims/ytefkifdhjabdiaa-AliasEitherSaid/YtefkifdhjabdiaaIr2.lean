/- The closed fact of the traces' laws; 'alias.fresh', 'alias.before'. -/
import Derived.Test.YtefkifdhjabdiaaIr1
namespace Go.Proofs.Ytefkifdhjabdiaa
set_option linter.unusedVariables false
set_option linter.unusedSimpArgs false
open Go.RowKit

theorem C_alloc {α : Type} {d : Rd α} {ok : Nat → Prop} {w : World} {A : Option Addr} {n : Nat} {xs : List α} (h : d.C ok w A n xs) (o : Obj) : d.C ok (w.alloc o) A n xs := h.move (fun k _ hk => Below.heap_alloc _ _ _ hk)
theorem C_drew {α : Type} {d : Rd α} {ok : Nat → Prop} {w : World} {A : Option Addr} {n : Nat} {xs : List α} (h : d.C ok w A n xs) : d.C ok w.drew A n xs := Rd.C.move (w := w) (w1 := w.drew) (fun k _ hk => rfl) h

set_option maxRecDepth 100000 in
theorem irred_any (w : World) : Calls Try.prog 12 #[] w fun e w' => e = .returned (.bool true) ∧ Below w.heap.size w w' := by
  go_enter Try.func12, Try.ntmps12
  go_wp2_with fail
  refine (asks_any ⟨14, 4, 5, 6, 0, 0, 0, 0⟩ (by simp [Rd.IsInt]) _).mono ?_
  rintro e w1 ⟨v, rfl, hb, hK⟩
  have hl : asksF ⟨14, 4, 5, 6, 0, 0, 0, 0⟩ = [4, 5, 6] := by decide
  rw [hl] at hK
  obtain ⟨A, c, hv, _, _, _, hC⟩ := hK
  injection hv with hv
  subst hv
  have HC := Lib.hid hC
  have HB := Lib.hid hb
  clear hC hb hl
  go_wp2_with fail
  refine (eqInt_any _ _ _ _ _ _ _ _ _ _ _ (C_alloc HC.out _) (C_lit w1.heap.size #[.int .i64 4, .int .i64 5, .int .i64 6] _ _ (heap_alloc_new _ _) 3 [4, 5, 6] rfl (fun i x hi => by
        match i, hi with
        | 0, hi => simp at hi; subst hi; exact ⟨rfl, by simp [Rd.IsInt]⟩
        | 1, hi => simp at hi; subst hi; exact ⟨rfl, by simp [Rd.IsInt]⟩
        | 2, hi => simp at hi; subst hi; exact ⟨rfl, by simp [Rd.IsInt]⟩
        | n + 3, hi => simp at hi) (by omega))).mono ?_
  rintro e w2 ⟨rfl, rfl⟩
  have hd : decide ([(4 : Int), 5, 6] = [4, 5, 6]) = true := by decide
  have t1 : tellsF 13 = true := by decide
  have t2 : tellsF 11 = false := by decide
  go_wp2_with fail
  refine (tells_any 13 _).mono ?_
  rintro e w3 ⟨rfl, h3⟩
  go_wp2_with fail
  refine (tells_any 11 _).mono ?_
  rintro e w4 ⟨rfl, h4⟩
  go_wp2_with fail
  go_ret
  have e1 := HB.out.alloc HB.out.size (.cells #[.int .i64 4, .int .i64 5, .int .i64 6] 3)
  have e2 := e1.trans (h3.mono e1.size)
  exact ⟨rfl, e2.trans (h4.mono e2.size)⟩

def freshB (op : Int) : Bool := decide (op = 16 ∨ op = 18)
def beforeB (op : Int) : Bool := decide (op = 1 ∨ op = 2 ∨ op = 3)
theorem fresh_any (op : Int) (w : World) : Calls Try.prog 18 #[.int .i64 op] w fun e w' => e = .returned (.bool (freshB op)) ∧ w = w' := by
  unfold freshB
  by_cases h1 : op = 16
  · subst h1
    go_enter Try.func18, Try.ntmps18
    go_wp2
    go_ret
    exact ⟨rfl, rfl⟩
  · have b1 : (op == 16) = false := by simpa using h1
    by_cases h2 : op = 18
    · subst h2
      go_enter Try.func18, Try.ntmps18
      go_wp2
      go_ret
      exact ⟨rfl, rfl⟩
    · have b2 : (op == 18) = false := by simpa using h2
      have hd : decide (op = 16 ∨ op = 18) = false := by simp [h1, h2]
      rw [hd]
      clear h1 h2 hd
      go_enter Try.func18, Try.ntmps18
      go_wp2
      go_ret
      exact ⟨rfl, rfl⟩
theorem before_any (op : Int) (w : World) : Calls Try.prog 19 #[.int .i64 op] w fun e w' => e = .returned (.bool (beforeB op)) ∧ w = w' := by
  unfold beforeB
  by_cases h1 : op = 1
  · subst h1
    go_enter Try.func19, Try.ntmps19
    go_wp2
    go_ret
    exact ⟨rfl, rfl⟩
  · have b1 : (op == 1) = false := by simpa using h1
    by_cases h2 : op = 2
    · subst h2
      go_enter Try.func19, Try.ntmps19
      go_wp2
      go_ret
      exact ⟨rfl, rfl⟩
    · have b2 : (op == 2) = false := by simpa using h2
      by_cases h3 : op = 3
      · subst h3
        go_enter Try.func19, Try.ntmps19
        go_wp2
        go_ret
        exact ⟨rfl, rfl⟩
      · have b3 : (op == 3) = false := by simpa using h3
        have hd : decide (op = 1 ∨ op = 2 ∨ op = 3) = false := by simp [h1, h2, h3]
        rw [hd]
        clear h1 h2 h3 hd
        go_enter Try.func19, Try.ntmps19
        go_wp2
        go_ret
        exact ⟨rfl, rfl⟩
end Go.Proofs.Ytefkifdhjabdiaa
