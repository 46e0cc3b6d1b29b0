/- 'ir.Tells', 'ir.Asks', 'Eq' of ints, the closed fact 'irred'. -/
import Derived.Test.YtefkifdhjabdiaaIr0
import Derived.Test.YtefkifdhjabdiaaOwn
import Derived.OwnWalk
namespace Go.Proofs.Ytefkifdhjabdiaa
set_option linter.unusedVariables false
set_option linter.unusedSimpArgs false
open Go.RowKit

def tellsF (op : Int) : Bool := (formOf op).1.tells

theorem tells_any (op : Int) (w : World) : Calls Try.prog 17 #[.int .i64 op] w fun e w' => e = .returned (.bool (tellsF op)) ∧ Below w.heap.size w w' := by
  unfold tellsF
  have H0 := of_any op
  generalize formOf op = F at H0 ⊢
  obtain ⟨⟨f0, f1, f2, f3, f4, f5⟩, g⟩ := F
  have H := Lib.hid H0
  clear H0
  go_enter Try.func17, Try.ntmps17
  go_wp2_with fail
  refine (H.out _).mono ?_
  rintro e w1 ⟨rfl, hb⟩
  unfold Fm.cells
  go_wp2
  go_ret
  exact ⟨rfl, hb.alloc hb.size _⟩

/-- An instruction of a trace. -/
structure Ins where
  op : Int
  a : Int
  b : Int
  c : Int
  n : Int
  x : Int
  kk : Int
  kn : Int
deriving DecidableEq
def Ins.cells (i : Ins) : Array Value := #[.int .i64 i.op, .int .i64 i.a, .int .i64 i.b, .int .i64 i.c, .int .i64 i.n, .int .i64 i.x, .int .i64 i.kk, .int .i64 i.kn]
/-- How many values it asks, and which. -/
def asksN (op : Int) : Nat := (formOf op).1.asks.toNat
def asksF (i : Ins) : List Int := [i.a, i.b, i.c].take (asksN i.op)
theorem asks_small (op : Int) : ((formOf op).1.asks = 0 ∨ (formOf op).1.asks = 1 ∨ (formOf op).1.asks = 2 ∨ (formOf op).1.asks = 3) ∧ ((formOf op).2 = false → (formOf op).1.asks = 0) := by
  rcases op_cases op with h | h
  · rcases h with rfl | rfl | rfl | rfl | rfl | rfl | rfl | rfl | rfl | rfl | rfl | rfl | rfl | rfl | rfl | rfl | rfl | rfl | rfl <;> decide
  · rw [formOf_none h]; decide

theorem infoInt : (Try.prog.info? 3).map (fun i => (i.zero, i.size, i.bytes)) = some (some (Value.int .i64 0), 1, 8) := by kernel_rfl

/-- A row of cells just laid reads as these. -/
theorem C_lit {w : World} (b : Nat) (cs : Array Value) (t : TypeId) (fr : Nat × Nat) (hb : w.heap[b]? = some (.cells cs t fr)) (m : Nat) (xs : List Int) (hm : xs.length = m) (hx : ∀ (i : Nat) (x : Int), xs[i]? = some x → cs[i]? = some (.int .i64 x) ∧ Rd.IsInt x) (hlen : m ≤ 9223372036854775807) : Rd.int.C (· = b) w (some ⟨b, 0, none⟩) m xs :=
  ⟨hm, hlen, fun _ => ⟨_, rfl, rfl, (Array.getElem?_eq_some_iff.1 hb).1, fun i x hi => ⟨_, ⟨rfl, (hx i x hi).2⟩, fun j u hj => by
    cases j with
    | zero =>
      have hu : Value.int .i64 x = u := by simpa using hj
      subst hu
      have e : (⟨b, 0, none⟩ : Addr).add (i * Rd.int.sz + 0) = ⟨b, i, none⟩ := by
        unfold Addr.add; split
        · rename_i h; simp [Rd.int] at h; simp [h]
        · simp [Rd.int]
      rw [e, World.cell?, hb]
      exact (hx i x hi).1
    | succ j => simp at hj⟩⟩⟩

set_option maxRecDepth 100000 in
set_option maxHeartbeats 1000000 in
theorem asks_any (i : Ins) (hi : Rd.IsInt i.a ∧ Rd.IsInt i.b ∧ Rd.IsInt i.c) (w : World) : Calls Try.prog 16 #[.agg i.cells] w fun e w' => ∃ v, e = .returned v ∧ Below w.heap.size w w' ∧ (Rd.slice Rd.int).K (fun k => w.heap.size ≤ k) w' (asksF i) [v] := by
  obtain ⟨op, a, b, c, n, x, kk, kn⟩ := i
  obtain ⟨ia, ib, ic⟩ := hi
  unfold Ins.cells asksF asksN
  simp only at ia ib ic ⊢
  obtain ⟨hs, hn⟩ := asks_small op
  have H0 := of_any op
  generalize formOf op = F at hs hn H0 ⊢
  obtain ⟨⟨f0, f1, f2, f3, f4, f5⟩, g⟩ := F
  have H := Lib.hid H0
  clear H0
  simp only at hs hn ⊢
  have hs' := Lib.hid hs
  have hn' := Lib.hid hn
  clear hs hn
  go_enter Try.func16, Try.ntmps16
  go_wp2_with fail
  refine (H.out _).mono ?_
  rintro e w1 ⟨rfl, hb⟩
  unfold Fm.cells
  have hs := hs'.out
  have hn := hn'.out
  clear hs' hn'
  have hbs : w.heap.size < w1.heap.size := by have := hb.size; simp at this; omega
  have hW : Below w.heap.size w w1 := ((Below.refl _ _).alloc (Nat.le_refl _) _).trans (hb.mono (by simp))
  have k0 : w1.cell? ⟨w.heap.size, 1, none⟩ = some (.int .i64 a) := by rw [hb.cell (p := ⟨w.heap.size, 1, none⟩) (by simp)]; simp
  have k1 : w1.cell? ⟨w.heap.size, 2, none⟩ = some (.int .i64 b) := by rw [hb.cell (p := ⟨w.heap.size, 2, none⟩) (by simp)]; simp
  have k2 : w1.cell? ⟨w.heap.size, 3, none⟩ = some (.int .i64 c) := by rw [hb.cell (p := ⟨w.heap.size, 3, none⟩) (by simp)]; simp
  clear hb
  have HW := Lib.hid hW
  clear hW
  cases g with
  | false =>
    obtain rfl : f0 = 0 := hn rfl
    clear hs hn
    go_wp2_with fail
    go_ret
    exact ⟨_, rfl, HW.out.alloc HW.out.size _, ⟨none, 0, rfl, Nat.le_refl _, by omega, fun _ => rfl, Rd.C.nil _ _ _ _⟩⟩
  | true =>
    clear hn
    have hap : ∀ (m : Nat), m ≤ 3 → ∀ o, ∃ v1 w2, (Builtin.append_ #[55, 55] 55 #[.slice none 0 0, .slice (some ⟨w1.heap.size + 1, 0, none⟩) m 3]).run Try.prog ((w1.alloc o).alloc (.cells #[.int .i64 a, .int .i64 b, .int .i64 c] 33)) = .ok v1 w2 ∧ Below w.heap.size w w2 ∧ (Rd.slice Rd.int).K (fun k => w.heap.size ≤ k) w2 ([a, b, c].take m) [v1] := fun m hm o => by
      have hW2 : Below w.heap.size w ((w1.alloc o).alloc (.cells #[.int .i64 a, .int .i64 b, .int .i64 c] 33)) := (HW.out.alloc HW.out.size _).alloc (by simp; omega) _
      have hbl : ((w1.alloc o).alloc (.cells #[.int .i64 a, .int .i64 b, .int .i64 c] 33)).heap[w1.heap.size + 1]? = some (.cells #[.int .i64 a, .int .i64 b, .int .i64 c] 33 (0, 0)) := by
        have := heap_alloc_new (w1.alloc o) (.cells #[.int .i64 a, .int .i64 b, .int .i64 c] 33)
        simpa using this
      have hC := C_lit (w := (w1.alloc o).alloc (.cells #[.int .i64 a, .int .i64 b, .int .i64 c] 33)) (w1.heap.size + 1) _ _ _ hbl m ([a, b, c].take m) (by simp; omega) (fun i x hi => by
        rw [List.getElem?_take] at hi
        split at hi
        · match i, hi with
          | 0, hi => simp at hi; subst hi; exact ⟨rfl, ia⟩
          | 1, hi => simp at hi; subst hi; exact ⟨rfl, ib⟩
          | 2, hi => simp at hi; subst hi; exact ⟨rfl, ic⟩
          | n + 3, hi => simp at hi
        · cases hi) (by omega)
      obtain ⟨v1, w2, hr, ho, hg, hat⟩ := (Own.nil Rd.int 3 (fun k => w.heap.size ≤ k) ((w1.alloc o).alloc (.cells #[.int .i64 a, .int .i64 b, .int .i64 c] 33)) w.heap.size).append (t := 55) Try.underlying55 infoInt rfl (by decide) (by decide) _ m 3 (fun h => by cases h) hC (fun k hk => ⟨by subst hk; omega, by simp [Value.ownBlock]⟩) (by simp; omega) (by simp; omega) 55
      refine ⟨v1, w2, hr, hW2.grown hg hW2.size (fun k hk => by simp [Value.ownBlock] at hk), ?_⟩
      have := ho.reads (by decide)
      rw [List.nil_append] at this
      exact (Rd.slice Rd.int).mono (fun k hk => by
        rcases hk with hk | hk
        · exact hk
        · exact (ho.lt k hk).1) this
    rcases hs with rfl | rfl | rfl | rfl
    · clear hap
      go_wp2_with fail
      go_ret
      exact ⟨_, rfl, (HW.out.alloc HW.out.size _).alloc (by simp; omega) _, ⟨none, 0, rfl, Nat.le_refl _, by omega, fun _ => rfl, Rd.C.nil _ _ _ _⟩⟩
    · obtain ⟨v1, w2, hr, h1, h2⟩ := hap 1 (by omega) (.cells #[.int .i64 1, .int .i64 f1, .int .i64 f2, .bool f3, .bool f4, .int .i64 f5] 66)
      clear hap
      have H1 := Lib.hid h1
      have H2 := Lib.hid h2
      clear h1 h2
      go_wp2_with (at_builtin; refine wpList_append_eq rfl _ _ _ rfl _ _ rfl rfl hr ?_)
      go_ret
      exact ⟨_, rfl, H1.out, H2.out⟩
    · obtain ⟨v1, w2, hr, h1, h2⟩ := hap 2 (by omega) (.cells #[.int .i64 2, .int .i64 f1, .int .i64 f2, .bool f3, .bool f4, .int .i64 f5] 66)
      clear hap
      have H1 := Lib.hid h1
      have H2 := Lib.hid h2
      clear h1 h2
      go_wp2_with (at_builtin; refine wpList_append_eq rfl _ _ _ rfl _ _ rfl rfl hr ?_)
      go_ret
      exact ⟨_, rfl, H1.out, H2.out⟩
    · obtain ⟨v1, w2, hr, h1, h2⟩ := hap 3 (by omega) (.cells #[.int .i64 3, .int .i64 f1, .int .i64 f2, .bool f3, .bool f4, .int .i64 f5] 66)
      clear hap
      have H1 := Lib.hid h1
      have H2 := Lib.hid h2
      clear h1 h2
      go_wp2_with (at_builtin; refine wpList_append_eq rfl _ _ _ rfl _ _ rfl rfl hr ?_)
      go_ret
      exact ⟨_, rfl, H1.out, H2.out⟩

/-- Whether two lists of ints are the same. -/
theorem eqInt_any (w : World) (A B : Option Addr) (n m c c' : Nat) (xs ys : List Int) (ok ok' : Nat → Prop) (hA : Rd.int.C ok w A n xs) (hB : Rd.int.C ok' w B m ys) :
    Calls Try.prog 15 #[.slice A n c, .slice B m c'] w fun e w' => e = .returned (.bool (decide (xs = ys))) ∧ w = w' := by
  have hn := hA.1
  have hm := hB.1
  have hn2 := hA.2.1
  by_cases hnm : n = m
  · subst hnm
    have hd : ((n : Int) != (n : Int)) = false := by simp
    have HA := Lib.hid hA
    have HB := Lib.hid hB
    have Hn := Lib.hid hn
    have Hm := Lib.hid hm
    clear hA hB hn hm
    go_enter Try.func15, Try.ntmps15
    go_wp2
    go_loop [14] (fun I => ∃ i : Nat, I = .int .i64 (i : Int) ∧ i ≤ n ∧ xs.take i = ys.take i) (fun i => n - (intOf i).toNat)
    case atStart => exact ⟨0, rfl, Nat.zero_le _, rfl⟩
    case round =>
      obtain ⟨i, rfl, hi, ht⟩ := hrel
      have HT := Lib.hid ht
      clear ht
      by_cases hlt : i < n
      · obtain ⟨x, hx⟩ : ∃ x, xs[i]? = some x := ⟨_, List.getElem?_eq_getElem (by rw [Hn.out]; exact hlt)⟩
        obtain ⟨y, hy⟩ : ∃ y, ys[i]? = some y := ⟨_, List.getElem?_eq_getElem (by rw [Hm.out]; exact hlt)⟩
        obtain ⟨ad, cs, rfl, _, _, ⟨rfl, _⟩, hc0, _⟩ := HA.out.elem i _ hx
        obtain ⟨bd, cs, rfl, _, _, ⟨rfl, _⟩, hd0, _⟩ := HB.out.elem i _ hy
        have e0 : w.cell? (ad.add i) = some (.int .i64 x) := by have := hc0 _ rfl; simpa [Rd.int] using this
        have e1 : w.cell? (bd.add i) = some (.int .i64 y) := by have := hd0 _ rfl; simpa [Rd.int] using this
        have hx' := Lib.hid hx
        have hy' := Lib.hid hy
        clear hc0 hd0 hx hy
        by_cases hxy : x = y
        · subst hxy
          go_wp2
          go_round
          case rel => exact ⟨i + 1, by go_num, hlt, by rw [List.take_add_one, List.take_add_one, HT.out, hx'.out, hy'.out]⟩
          case measure => simp [intOf]; omega
        · have hb : (x != y) = true := by simpa using hxy
          go_wp2
          go_ret
          refine ⟨?_, rfl⟩
          have : ¬ xs = ys := fun h => hxy (by have := hx'.out; rw [h, hy'.out] at this; injection this with this; exact this.symm)
          simp [this]
      · go_wp2
        go_ret
        refine ⟨?_, rfl⟩
        have h1 := HT.out
        rw [List.take_of_length_le (by rw [Hn.out]; omega), List.take_of_length_le (by rw [Hm.out]; omega)] at h1
        simp [h1]
  · have hb : ((n : Int) != (m : Int)) = true := by simp; omega
    have hne : decide (xs = ys) = false := by
      simp only [decide_eq_false_iff_not]
      intro h; rw [h] at hn; omega
    have Hne := Lib.hid hne
    clear hne hn hm hA hB
    rw [Hne.out]
    go_enter Try.func15, Try.ntmps15
    go_wp2
    go_ret
    exact ⟨rfl, rfl⟩
end Go.Proofs.Ytefkifdhjabdiaa
