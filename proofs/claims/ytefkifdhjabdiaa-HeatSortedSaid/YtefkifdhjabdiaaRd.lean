/- How values that are only read stand for plain data: 'Rd'. What is read lies below block B; so it stays while nothing below B turns. -/
import Derived.WalkKit
import Derived.ChangeArms
import Derived.ChangeSame
import Derived.Deep.Slices
import Derived.ChangeOld
import Derived.OpenShut
namespace Go.Proofs.Ytefkifdhjabdiaa
set_option linter.unusedVariables false
set_option linter.unusedSimpArgs false
open Go.RowKit Go.WideShapes Go.ChangeShapes

/-- 'ok': the blocks that may be read. -/
structure Rd (α : Type) where
  sz : Nat
  K : (Nat → Prop) → World → α → List Value → Prop
  len : ∀ {ok w x cs}, K ok w x cs → cs.length = sz
  one : ∀ {ok w x cs}, K ok w x cs → ∀ u ∈ cs, u.oneCell' = true
  move : ∀ {ok : Nat → Prop} {w w1 : World} {x cs}, (∀ k, ok k → k < w.heap.size → w1.heap[k]? = w.heap[k]?) → K ok w x cs → K ok w1 x cs
  mono : ∀ {ok ok' : Nat → Prop} {w x cs}, (∀ k, ok k → ok' k) → K ok w x cs → K ok' w x cs
  bound : ∀ {ok : Nat → Prop} {w : World} {x cs}, K ok w x cs → K (fun k => ok k ∧ k < w.heap.size) w x cs

namespace Rd
variable {α β : Type}
theorem below {d : Rd α} {B : Nat} {w w1 : World} {x : α} {cs : List Value} (hb : Below B w w1) (h : d.K (· < B) w x cs) : d.K (· < B) w1 x cs := d.move (fun k hk _ => hb.block k hk) h
theorem upto {d : Rd α} {B B' : Nat} (hB : B ≤ B') {w : World} {x : α} {cs : List Value} (h : d.K (· < B) w x cs) : d.K (· < B') w x cs := d.mono (fun k hk => Nat.lt_of_lt_of_le hk hB) h

/-- What leads to no memory. -/
def flat (n : Nat) (enc : α → List Value) (h : ∀ x, (enc x).length = n) (h1 : ∀ x, ∀ u ∈ enc x, u.oneCell' = true) : Rd α where
  sz := n
  K := fun _ _ x cs => cs = enc x
  len := fun h' => by rw [h']; exact h _
  one := fun h' => by rw [h']; exact h1 _
  move := fun _ h => h
  mono := fun _ h => h
  bound := fun h => h
/-- A number that an int can be. -/
def IsInt (x : Int) : Prop := -9223372036854775808 ≤ x ∧ x ≤ 9223372036854775807
def int : Rd Int where
  sz := 1
  K := fun _ _ x cs => cs = [.int .i64 x] ∧ IsInt x
  len := fun h' => by rw [h'.1]; rfl
  one := fun h' u hu => by rw [h'.1, List.mem_singleton] at hu; rw [hu]; rfl
  move := fun _ h => h
  mono := fun _ h => h
  bound := fun h => h
def bool : Rd Bool := flat 1 (fun x => [.bool x]) (fun _ => rfl) (fun x u hu => by rw [List.mem_singleton] at hu; rw [hu]; rfl)
def str : Rd ByteArray where
  sz := 1
  K := fun _ _ x cs => cs = [.string x] ∧ x.size ≤ 9223372036854775807
  len := fun h' => by rw [h'.1]; rfl
  one := fun h' u hu => by rw [h'.1, List.mem_singleton] at hu; rw [hu]; rfl
  move := fun _ h => h
  mono := fun _ h => h
  bound := fun h => h

/-- The slice (A, n) reads as xs. -/
def C (d : Rd α) (ok : Nat → Prop) (w : World) (A : Option Addr) (n : Nat) (xs : List α) : Prop :=
  xs.length = n ∧ n ≤ 9223372036854775807 ∧ (0 < n → ∃ ad, A = some ad ∧ ok ad.block ∧ ad.block < w.heap.size ∧ ∀ i x, xs[i]? = some x → ∃ cs, d.K ok w x cs ∧ ∀ j u, cs[j]? = some u → w.cell? (ad.add (i * d.sz + j)) = some u)
abbrev CB (d : Rd α) (B : Nat) (w : World) (A : Option Addr) (n : Nat) (xs : List α) : Prop := d.C (· < B) w A n xs
theorem block_add (a : Addr) (j : Nat) : (a.add j).block = a.block := by unfold Addr.add; split <;> rfl
theorem size_of_block {w w1 : World} {k : Nat} (h : w1.heap[k]? = w.heap[k]?) (hk : k < w.heap.size) : k < w1.heap.size := by
  rw [Array.getElem?_eq_getElem hk] at h
  exact (Array.getElem?_eq_some_iff.1 h).1
theorem C.move {d : Rd α} {ok : Nat → Prop} {w w1 : World} {A : Option Addr} {n : Nat} {xs : List α} (hm : ∀ k, ok k → k < w.heap.size → w1.heap[k]? = w.heap[k]?) (h : d.C ok w A n xs) : d.C ok w1 A n xs :=
  ⟨h.1, h.2.1, fun hn => by
    obtain ⟨ad, e, hB, hs, hx⟩ := h.2.2 hn
    refine ⟨ad, e, hB, size_of_block (hm _ hB hs) hs, fun i x hi => ?_⟩
    obtain ⟨cs, hk, hc⟩ := hx i x hi
    refine ⟨cs, d.move hm hk, fun j u hj => ?_⟩
    rw [World.cell?_of_block (w := w) (by rw [block_add]; exact hm _ hB hs)]
    exact hc j u hj⟩
theorem C.mono {d : Rd α} {ok ok' : Nat → Prop} {w : World} {A : Option Addr} {n : Nat} {xs : List α} (hB : ∀ k, ok k → ok' k) (h : d.C ok w A n xs) : d.C ok' w A n xs :=
  ⟨h.1, h.2.1, fun hn => by
    obtain ⟨ad, e, hb, hs, hx⟩ := h.2.2 hn
    refine ⟨ad, e, hB _ hb, hs, fun i x hi => ?_⟩
    obtain ⟨cs, hk, hc⟩ := hx i x hi
    exact ⟨cs, d.mono hB hk, hc⟩⟩
theorem C.bound {d : Rd α} {ok : Nat → Prop} {w : World} {A : Option Addr} {n : Nat} {xs : List α} (h : d.C ok w A n xs) : d.C (fun k => ok k ∧ k < w.heap.size) w A n xs :=
  ⟨h.1, h.2.1, fun hn => by
    obtain ⟨ad, e, hb, hs, hx⟩ := h.2.2 hn
    refine ⟨ad, e, ⟨hb, hs⟩, hs, fun i x hi => ?_⟩
    obtain ⟨cs, hk, hc⟩ := hx i x hi
    exact ⟨cs, d.bound hk, hc⟩⟩
theorem C.below {d : Rd α} {B : Nat} {w w1 : World} {A : Option Addr} {n : Nat} {xs : List α} (hb : Below B w w1) (h : d.CB B w A n xs) : d.CB B w1 A n xs := C.move (fun k hk _ => hb.block k hk) h
theorem C.upto {d : Rd α} {B B' : Nat} (hB : B ≤ B') {w : World} {A : Option Addr} {n : Nat} {xs : List α} (h : d.CB B w A n xs) : d.CB B' w A n xs := C.mono (fun k hk => Nat.lt_of_lt_of_le hk hB) h
theorem C.nil (d : Rd α) (ok : Nat → Prop) (w : World) (A : Option Addr) : d.C ok w A 0 [] := ⟨rfl, by omega, fun h => by omega⟩
/-- An element. -/
theorem C.at_ {d : Rd α} {ok : Nat → Prop} {w : World} {A : Option Addr} {n : Nat} {xs : List α} (h : d.C ok w A n xs) (i : Nat) (x : α) (hi : xs[i]? = some x) :
    ∃ ad cs, A = some ad ∧ ok ad.block ∧ ad.block < w.heap.size ∧ d.K ok w x cs ∧ ∀ j u, cs[j]? = some u → w.cell? (ad.add (i * d.sz + j)) = some u := by
  have hl : i < xs.length := (List.getElem?_eq_some_iff.1 hi).1
  obtain ⟨ad, e, hB, hs, hx⟩ := h.2.2 (by have := h.1; omega)
  obtain ⟨cs, hk, hc⟩ := hx i x hi
  exact ⟨ad, cs, e, hB, hs, hk, hc⟩
/-- An element's cells, as the walk spells their places. -/
theorem C.elem {d : Rd α} {ok : Nat → Prop} {w : World} {A : Option Addr} {n : Nat} {xs : List α} (h : d.C ok w A n xs) (i : Nat) (x : α) (hi : xs[i]? = some x) :
    ∃ ad cs, A = some ad ∧ ok ad.block ∧ ad.block < w.heap.size ∧ d.K ok w x cs ∧ (∀ u, cs[0]? = some u → w.cell? (ad.add (i * d.sz)) = some u) ∧ ∀ j u, cs[j + 1]? = some u → w.cell? ⟨(ad.add (i * d.sz)).block, (ad.add (i * d.sz)).off + (j + 1), none⟩ = some u := by
  obtain ⟨ad, cs, e, hB, hs, hk, hc⟩ := h.at_ i x hi
  refine ⟨ad, cs, e, hB, hs, hk, fun u hu => by simpa using hc 0 u hu, fun j u hu => ?_⟩
  have := hc (j + 1) u hu
  have e2 : ad.add (i * d.sz + (j + 1)) = ⟨(ad.add (i * d.sz)).block, (ad.add (i * d.sz)).off + (j + 1), none⟩ := by
    unfold Addr.add
    rw [if_neg (by omega)]
    split
    · rename_i h0; simp [h0]
    · simp [Nat.add_assoc]
  rwa [e2] at this
/-- The first ones. -/
theorem C.take {d : Rd α} {ok : Nat → Prop} {w : World} {A : Option Addr} {n : Nat} {xs : List α} (h : d.C ok w A n xs) (m : Nat) (hm : m ≤ n) : d.C ok w A m (xs.take m) := by
  refine ⟨by rw [List.length_take, h.1]; omega, by have := h.2.1; omega, fun hp => ?_⟩
  obtain ⟨ad, e, hB, hs, hx⟩ := h.2.2 (by omega)
  refine ⟨ad, e, hB, hs, fun i x hi => hx i x ?_⟩
  rw [List.getElem?_take] at hi
  split at hi
  · exact hi
  · cases hi
/-- The slice as one cell. -/
def slice (d : Rd α) : Rd (List α) where
  sz := 1
  K := fun ok w xs cs => ∃ A c, cs = [.slice A xs.length c] ∧ xs.length ≤ c ∧ c ≤ 9223372036854775807 ∧ (A = none → c = 0) ∧ d.C ok w A xs.length xs
  len := fun ⟨A, c, h, _⟩ => by rw [h]; rfl
  one := fun ⟨A, c, h, _⟩ u hu => by rw [h, List.mem_singleton] at hu; rw [hu]; rfl
  move := fun hb ⟨A, c, h, hl, hm, hn, hc⟩ => ⟨A, c, h, hl, hm, hn, hc.move hb⟩
  mono := fun hB ⟨A, c, h, hl, hm, hn, hc⟩ => ⟨A, c, h, hl, hm, hn, hc.mono hB⟩
  bound := fun ⟨A, c, h, hl, hm, hn, hc⟩ => ⟨A, c, h, hl, hm, hn, hc.bound⟩
/-- A struct by its first field and the rest. -/
def pair (a : Rd α) (b : Rd β) : Rd (α × β) where
  sz := a.sz + b.sz
  K := fun ok w x cs => ∃ c0 c1, cs = c0 ++ c1 ∧ a.K ok w x.1 c0 ∧ b.K ok w x.2 c1
  len := fun ⟨c0, c1, h, h0, h1⟩ => by rw [h, List.length_append, a.len h0, b.len h1]
  one := fun ⟨c0, c1, h, h0, h1⟩ u hu => by
    rw [h, List.mem_append] at hu
    rcases hu with hu | hu
    · exact a.one h0 u hu
    · exact b.one h1 u hu
  move := fun hb ⟨c0, c1, h, h0, h1⟩ => ⟨c0, c1, h, a.move hb h0, b.move hb h1⟩
  mono := fun hB ⟨c0, c1, h, h0, h1⟩ => ⟨c0, c1, h, a.mono hB h0, b.mono hB h1⟩
  bound := fun ⟨c0, c1, h, h0, h1⟩ => ⟨c0, c1, h, a.bound h0, b.bound h1⟩
def iso (d : Rd α) (f : β → α) : Rd β where
  sz := d.sz
  K := fun ok w x cs => d.K ok w (f x) cs
  len := d.len
  one := d.one
  move := d.move
  mono := d.mono
  bound := d.bound
end Rd

/-! ### From the row's reading -/
/-- Whatever reads at type t is d's. -/
def Opens {α : Type} (P : Program) (t : TypeId) (d : Rd α) : Prop :=
  P.cellsOf t = d.sz ∧ ∀ {H : Type} (enc : TypeId × Value → H) (w : World) (fuel : Nat) (cs : List Value) (x : DataW H × List MemPlace), DataW.trod enc P w 0 (fun _ => true) true fuel t cs = some x → ∃ a, d.K (· < w.heap.size) w a cs
section
variable {P : Program} {t : TypeId}
theorem opens_int (ht : P.underlying t = some (.int .i64)) (hc : P.cellsOf t = 1) : Opens P t Rd.int :=
  ⟨hc, fun enc w fuel cs x h => by
    obtain ⟨a, e, _, hw⟩ := DataW.trod_int ht h
    exact ⟨a, e, bounds_i64 hw⟩⟩
theorem opens_bool (ht : P.underlying t = some .bool) (hc : P.cellsOf t = 1) : Opens P t Rd.bool :=
  ⟨hc, fun enc w fuel cs x h => by
    obtain ⟨a, e, _⟩ := DataW.trod_bool ht h
    exact ⟨a, e⟩⟩
theorem opens_str (ht : P.underlying t = some .string) (hc : P.cellsOf t = 1) : Opens P t Rd.str :=
  ⟨hc, fun enc w fuel cs x h => by
    obtain ⟨a, e, _, hm⟩ := DataW.trod_string ht h
    exact ⟨a, e, hm⟩⟩
theorem cell_of_cells {w : World} {base : Nat} {a : Addr} {n : Nat} {cs : List Value} (h : w.cells? base a n = some cs) (j : Nat) (u : Value) (hj : cs[j]? = some u) : w.cell? (a.add j) = some u := by
  obtain ⟨_, h2, h3⟩ := World.cells?_some h
  have hl : j < cs.length := (List.getElem?_eq_some_iff.1 hj).1
  have := h3 j (by omega)
  rw [this, hj]
theorem opens_slice {α : Type} {e : TypeId} {d : Rd α} (ht : P.underlying t = some (.slice e)) (hc : P.cellsOf t = 1) (hd : Opens P e d) (hs : 0 < d.sz) : Opens P t (Rd.slice d) :=
  ⟨hc, fun enc w fuel cs x h => by
    rcases Deep.open_slice ht h with ⟨rfl, _⟩ | ⟨a, len, cap, m, n, D, Pl, rfl, _, hl, hm, hmm, _, hx⟩
    · exact ⟨[], none, 0, rfl, Nat.le_refl _, by omega, fun _ => rfl, Rd.C.nil _ _ _ _⟩
    · simp only [if_true] at hmm
      subst hmm
      have hel : ∀ i, i < len → ∃ y : α, ∃ cs', d.K (· < w.heap.size) w y cs' ∧ w.cells? 0 (a.add (i * P.cellsOf e)) (P.cellsOf e) = some cs' := fun i hi => by
        obtain ⟨cs', h1, h2⟩ := hx i (by omega)
        obtain ⟨y, hy⟩ := hd.2 enc w n cs' _ h2
        exact ⟨y, cs', hy, h1⟩
      have hall : ∀ n, n ≤ len → ∃ ys : List α, ys.length = n ∧ ∀ i y, ys[i]? = some y → ∃ cs', d.K (· < w.heap.size) w y cs' ∧ w.cells? 0 (a.add (i * P.cellsOf e)) (P.cellsOf e) = some cs' := by
        intro n
        induction n with
        | zero => exact fun _ => ⟨[], rfl, fun i y h => by simp at h⟩
        | succ n ih =>
          intro hn
          obtain ⟨ys, hy, hys⟩ := ih (by omega)
          obtain ⟨y, cs', hk, hc'⟩ := hel n (by omega)
          refine ⟨ys ++ [y], by simp [hy], fun i z hz => ?_⟩
          rcases Nat.lt_or_ge i ys.length with hi | hi
          · rw [List.getElem?_append_left hi] at hz
            exact hys i z hz
          · have hi' : i = n := by
              have := (List.getElem?_eq_some_iff.1 hz).1
              simp at this
              omega
            subst hi'
            rw [List.getElem?_append_right hi] at hz
            have : y = z := by simpa [hy] using hz
            subst this
            exact ⟨cs', hk, hc'⟩
      obtain ⟨ys, hy, hys⟩ := hall len (Nat.le_refl _)
      refine ⟨ys, some a, m, by rw [hy], by omega, by simpa [maxLen] using hm, by simp, by rw [hy], by rw [hy]; have : m ≤ maxLen := hm; simp only [maxLen] at this; omega, fun hp => ?_⟩
      have hbl : a.block < w.heap.size := by
        obtain ⟨cs', hk, hc'⟩ := hys 0 (ys[0]'(by omega)) (List.getElem?_eq_getElem (by omega))
        have hb := World.cells?_block hc' (by rw [hd.1]; exact hs)
        simpa [Addr.add] using hb
      refine ⟨a, rfl, hbl, hbl, fun i y hi => ?_⟩
      obtain ⟨cs', hk, hc'⟩ := hys i y hi
      refine ⟨cs', hk, fun j u hj => ?_⟩
      have := cell_of_cells hc' j u hj
      rwa [Deep.add_add, hd.1] at this⟩
/-- The fields of a struct from an offset on. -/
structure OpensFs {α : Type} (P : Program) (off : Nat) (fs : List Field) (d : Rd α) : Prop where
  go : ∀ {H : Type} (enc : TypeId × Value → H) (w : World) (n : Nat) (cs : List Value), cs.length = off + d.sz → (∀ f ∈ fs, ∃ x, DataW.trod enc P w 0 (fun _ => true) true n f.type ((cs.drop f.offset).take (P.cellsOf f.type)) = some x) → ∃ a, d.K (· < w.heap.size) w a (cs.drop off)
theorem opensFs_one {α : Type} {d : Rd α} {off : Nat} {f : Field} (ho : f.offset = off) (hd : Opens P f.type d) : OpensFs P off [f] d := ⟨fun enc w n cs hl hf => by
  obtain ⟨x, hx⟩ := hf f (by simp)
  obtain ⟨a, ha⟩ := hd.2 enc w n _ x hx
  refine ⟨a, ?_⟩
  rw [ho, hd.1, List.take_of_length_le (by rw [List.length_drop]; omega)] at ha
  exact ha⟩
theorem opensFs_cons {α β : Type} {a : Rd α} {b : Rd β} {off : Nat} {f : Field} {fs : List Field} (ho : f.offset = off) (hd : Opens P f.type a) (hr : OpensFs P (off + a.sz) fs b) : OpensFs P off (f :: fs) (Rd.pair a b) := ⟨fun enc w n cs hl hf => by
  obtain ⟨x, hx⟩ := hf f (by simp)
  obtain ⟨y, hy⟩ := hd.2 enc w n _ x hx
  have hl' : cs.length = off + (a.sz + b.sz) := hl
  obtain ⟨z, hz⟩ := hr.go enc w n cs (by omega) (fun g hg => hf g (by simp [hg]))
  rw [ho, hd.1] at hy
  refine ⟨(y, z), _, _, ?_, hy, hz⟩
  rw [← List.drop_drop, List.take_append_drop]⟩
theorem opens_struct {α : Type} {d : Rd α} {fs : Array Field} (ht : P.underlying t = some (.struct fs)) (hc : P.cellsOf t = d.sz) (hd : OpensFs P 0 fs.toList d) : Opens P t d :=
  ⟨hc, fun enc w fuel cs x h => by
    obtain ⟨xs, n, _, _, hl, hlen, hf⟩ := DataW.trod_struct ht h
    have := hd.go enc w n cs (by rw [hl, hc]; omega) (fun f hf' => by
      obtain ⟨i, hi, e⟩ := List.mem_iff_getElem.1 hf'
      have h2 := hf i f (by rw [← Array.getElem?_toList]; rw [List.getElem?_eq_getElem hi, e])
      rw [h2, List.getElem?_eq_getElem (by rw [hlen]; simpa using hi)]
      exact ⟨_, rfl⟩)
    simpa using this⟩
theorem opens_iso {α β : Type} {d : Rd α} (f : β → α) (g : α → β) (hg : ∀ x, f (g x) = x) (hd : Opens P t d) : Opens P t (Rd.iso d f) :=
  ⟨hd.1, fun enc w fuel cs x h => by
    obtain ⟨a, ha⟩ := hd.2 enc w fuel cs x h
    exact ⟨g a, by show d.K _ _ (f (g a)) _; rw [hg]; exact ha⟩⟩
theorem opens_array3 {α : Type} {e : TypeId} {d : Rd α} (ht : P.underlying t = some (.array 3 e)) (hc : P.cellsOf t = d.sz + (d.sz + d.sz)) (hd : Opens P e d) : Opens P t (Rd.pair d (Rd.pair d d)) :=
  ⟨hc, fun enc w fuel cs x h => by
    obtain ⟨xs, n, _, _, hl, hlen, hf⟩ := DataW.trod_array ht h
    have hl' : cs.length = d.sz + (d.sz + d.sz) := by rw [hl, hc]
    have g : ∀ i, i < 3 → ∃ y, d.K (· < w.heap.size) w y ((cs.drop (i * d.sz)).take d.sz) := fun i hi => by
      have h2 := hf i hi
      rw [List.getElem?_eq_getElem (by rw [hlen]; exact hi), hd.1] at h2
      exact hd.2 enc w n _ _ h2
    obtain ⟨y0, h0⟩ := g 0 (by omega)
    obtain ⟨y1, h1⟩ := g 1 (by omega)
    obtain ⟨y2, h2⟩ := g 2 (by omega)
    rw [Nat.zero_mul, List.drop_zero] at h0
    rw [Nat.one_mul] at h1
    rw [List.take_of_length_le (by rw [List.length_drop]; omega)] at h2
    refine ⟨(y0, y1, y2), _, _, ?_, h0, _, _, rfl, h1, h2⟩
    rw [Nat.two_mul, ← List.drop_drop, List.take_append_drop, List.take_append_drop]⟩
/-- From an argument's reading. -/
theorem opens_arg {α : Type} {d : Rd α} (hd : Opens P t d) {H : Type} {enc : TypeId × Value → H} {w : World} {v : Value} {x : DataW H} {ps : List MemPlace} (h : DataW.Trod enc P w 0 (fun _ => true) true t v x ps) : ∃ a, d.K (· < w.heap.size) w a v.cells.toList := by
  obtain ⟨n, hn⟩ := h
  exact hd.2 enc w n _ _ hn
end
end Go.Proofs.Ytefkifdhjabdiaa
