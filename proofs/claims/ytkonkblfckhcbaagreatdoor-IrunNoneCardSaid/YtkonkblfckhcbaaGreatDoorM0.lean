/- What the laws' texts lean on, part 1: lemmas and the contracts of functions. No condition. -/
import Derived.WalkKit
import Derived.ChangeArms
import Derived.ChangeSame
import Derived.Deep.Slices
import Derived.ChangeOld
import Derived.OpenShut
import Derived.Maps.AppendAt
import Derived.Lib.Hide
import Derived.Deep.Draws
import Derived.Maps.OwnSet
import Derived.Laws.FloatArith
import Derived.Test.YtkonkblfckhcbaaGreatDoorProg
import GoSem.Step
import Derived.Laws.Closers25b
import Derived.Test.YtkonkblfckhcbaaGreatDoorRows
import Derived.ProofKit
import Derived.LaidMore
import Derived.LaidByTextLater
import Derived.MakeChecks
import Derived.Laws.Rows
import Derived.Laws.StructEq
import Derived.Laws.Tables
import Derived.IntWalk
import Derived.Shelf.Abstract
namespace Go.Proofs.YtkonkblfckhcbaaGreatDoor
set_option linter.unusedVariables false
set_option linter.unusedSimpArgs false
open Go.RowKit Go.WideShapes Go.ChangeShapes

/-- 'ok': the blocks that may be read. -/
structure Rd (α : Type) where
 sz : Nat
 K : (Nat → Prop) → World → α → List Value → Prop
 len : ∀ {ok w x cs}, K ok w x cs → cs.length = sz
 one : ∀ {ok w x cs}, K ok w x cs → ∀ u ∈ cs, u.oneCell' = true
 move : ∀ {ok : Nat → Prop} {w w1 : World} {x cs}, (∀ k, ok k → k < w.heap.size → w1.heap[k]? = w.heap[k]?) → K ok w x cs → K ok w1 x cs
 mono : ∀ {ok ok' : Nat → Prop} {w x cs}, (∀ k, ok k → ok' k) → K ok w x cs → K ok' w x cs
 bound : ∀ {ok : Nat → Prop} {w : World} {x cs}, K ok w x cs → K (fun k => ok k ∧ k < w.heap.size) w x cs

namespace Rd
variable {α β : Type}
theorem below {d : Rd α} {B : Nat} {w w1 : World} {x : α} {cs : List Value} (hb : Below B w w1) (h : d.K (· < B) w x cs) : d.K (· < B) w1 x cs := d.move (fun k hk _ => hb.block k hk) h
/-- What leads to no memory. -/
def flat (n : Nat) (enc : α → List Value) (h : ∀ x, (enc x).length = n) (h1 : ∀ x, ∀ u ∈ enc x, u.oneCell' = true) : Rd α where
 sz := n
 K := fun _ _ x cs => cs = enc x
 len := fun h' => by rw [h']; exact h _
 one := fun h' => by rw [h']; exact h1 _
 move := fun _ h => h
 mono := fun _ h => h
 bound := fun h => h
/-- A number that an int can be. -/
def IsInt (x : Int) : Prop := -9223372036854775808 ≤ x ∧ x ≤ 9223372036854775807
def int : Rd Int where
 sz := 1
 K := fun _ _ x cs => cs = [.int .i64 x] ∧ IsInt x
 len := fun h' => by rw [h'.1]; rfl
 one := fun h' u hu => by rw [h'.1, List.mem_singleton] at hu; rw [hu]; rfl
 move := fun _ h => h
 mono := fun _ h => h
 bound := fun h => h
def bool : Rd Bool := flat 1 (fun x => [.bool x]) (fun _ => rfl) (fun x u hu => by rw [List.mem_singleton] at hu; rw [hu]; rfl)
def str : Rd ByteArray where
 sz := 1
 K := fun _ _ x cs => cs = [.string x] ∧ x.size ≤ 9223372036854775807
 len := fun h' => by rw [h'.1]; rfl
 one := fun h' u hu => by rw [h'.1, List.mem_singleton] at hu; rw [hu]; rfl
 move := fun _ h => h
 mono := fun _ h => h
 bound := fun h => h

/-- The slice (A, n) reads as xs. -/
def C (d : Rd α) (ok : Nat → Prop) (w : World) (A : Option Addr) (n : Nat) (xs : List α) : Prop :=
 xs.length = n ∧ n ≤ 9223372036854775807 ∧ (0 < n → ∃ ad, A = some ad ∧ ok ad.block ∧ ad.block < w.heap.size ∧ ∀ i x, xs[i]? = some x → ∃ cs, d.K ok w x cs ∧ ∀ j u, cs[j]? = some u → w.cell? (ad.add (i * d.sz + j)) = some u)
abbrev CB (d : Rd α) (B : Nat) (w : World) (A : Option Addr) (n : Nat) (xs : List α) : Prop := d.C (· < B) w A n xs
theorem block_add (a : Addr) (j : Nat) : (a.add j).block = a.block := by unfold Addr.add; split <;> rfl
theorem size_of_block {w w1 : World} {k : Nat} (h : w1.heap[k]? = w.heap[k]?) (hk : k < w.heap.size) : k < w1.heap.size := by
 rw [Array.getElem?_eq_getElem hk] at h
 exact (Array.getElem?_eq_some_iff.1 h).1
theorem C.move {d : Rd α} {ok : Nat → Prop} {w w1 : World} {A : Option Addr} {n : Nat} {xs : List α} (hm : ∀ k, ok k → k < w.heap.size → w1.heap[k]? = w.heap[k]?) (h : d.C ok w A n xs) : d.C ok w1 A n xs :=
 ⟨h.1, h.2.1, fun hn => by
  obtain ⟨ad, e, hB, hs, hx⟩ := h.2.2 hn
  refine ⟨ad, e, hB, size_of_block (hm _ hB hs) hs, fun i x hi => ?_⟩
  obtain ⟨cs, hk, hc⟩ := hx i x hi
  refine ⟨cs, d.move hm hk, fun j u hj => ?_⟩
  rw [World.cell?_of_block (w := w) (by rw [block_add]; exact hm _ hB hs)]
  exact hc j u hj⟩
theorem C.mono {d : Rd α} {ok ok' : Nat → Prop} {w : World} {A : Option Addr} {n : Nat} {xs : List α} (hB : ∀ k, ok k → ok' k) (h : d.C ok w A n xs) : d.C ok' w A n xs :=
 ⟨h.1, h.2.1, fun hn => by
  obtain ⟨ad, e, hb, hs, hx⟩ := h.2.2 hn
  refine ⟨ad, e, hB _ hb, hs, fun i x hi => ?_⟩
  obtain ⟨cs, hk, hc⟩ := hx i x hi
  exact ⟨cs, d.mono hB hk, hc⟩⟩
theorem C.bound {d : Rd α} {ok : Nat → Prop} {w : World} {A : Option Addr} {n : Nat} {xs : List α} (h : d.C ok w A n xs) : d.C (fun k => ok k ∧ k < w.heap.size) w A n xs :=
 ⟨h.1, h.2.1, fun hn => by
  obtain ⟨ad, e, hb, hs, hx⟩ := h.2.2 hn
  refine ⟨ad, e, ⟨hb, hs⟩, hs, fun i x hi => ?_⟩
  obtain ⟨cs, hk, hc⟩ := hx i x hi
  exact ⟨cs, d.bound hk, hc⟩⟩
theorem C.below {d : Rd α} {B : Nat} {w w1 : World} {A : Option Addr} {n : Nat} {xs : List α} (hb : Below B w w1) (h : d.CB B w A n xs) : d.CB B w1 A n xs := C.move (fun k hk _ => hb.block k hk) h
theorem C.nil (d : Rd α) (ok : Nat → Prop) (w : World) (A : Option Addr) : d.C ok w A 0 [] := ⟨rfl, by omega, fun h => by omega⟩
/-- An element. -/
theorem C.at_ {d : Rd α} {ok : Nat → Prop} {w : World} {A : Option Addr} {n : Nat} {xs : List α} (h : d.C ok w A n xs) (i : Nat) (x : α) (hi : xs[i]? = some x) :
  ∃ ad cs, A = some ad ∧ ok ad.block ∧ ad.block < w.heap.size ∧ d.K ok w x cs ∧ ∀ j u, cs[j]? = some u → w.cell? (ad.add (i * d.sz + j)) = some u := by
 have hl : i < xs.length := (List.getElem?_eq_some_iff.1 hi).1
 obtain ⟨ad, e, hB, hs, hx⟩ := h.2.2 (by have := h.1; omega)
 obtain ⟨cs, hk, hc⟩ := hx i x hi
 exact ⟨ad, cs, e, hB, hs, hk, hc⟩
/-- An element's cells, as the walk spells their places. -/
theorem C.elem {d : Rd α} {ok : Nat → Prop} {w : World} {A : Option Addr} {n : Nat} {xs : List α} (h : d.C ok w A n xs) (i : Nat) (x : α) (hi : xs[i]? = some x) :
  ∃ ad cs, A = some ad ∧ ok ad.block ∧ ad.block < w.heap.size ∧ d.K ok w x cs ∧ (∀ u, cs[0]? = some u → w.cell? (ad.add (i * d.sz)) = some u) ∧ ∀ j u, cs[j + 1]? = some u → w.cell? ⟨(ad.add (i * d.sz)).block, (ad.add (i * d.sz)).off + (j + 1), none⟩ = some u := by
 obtain ⟨ad, cs, e, hB, hs, hk, hc⟩ := h.at_ i x hi
 refine ⟨ad, cs, e, hB, hs, hk, fun u hu => by simpa using hc 0 u hu, fun j u hu => ?_⟩
 have := hc (j + 1) u hu
 have e2 : ad.add (i * d.sz + (j + 1)) = ⟨(ad.add (i * d.sz)).block, (ad.add (i * d.sz)).off + (j + 1), none⟩ := by
  unfold Addr.add
  rw [if_neg (by omega)]
  split
  ·rename_i h0; simp [h0]
  ·simp [Nat.add_assoc]
 rwa [e2] at this
/-- The first ones. -/
theorem C.take {d : Rd α} {ok : Nat → Prop} {w : World} {A : Option Addr} {n : Nat} {xs : List α} (h : d.C ok w A n xs) (m : Nat) (hm : m ≤ n) : d.C ok w A m (xs.take m) := by
 refine ⟨by rw [List.length_take, h.1]; omega, by have := h.2.1; omega, fun hp => ?_⟩
 obtain ⟨ad, e, hB, hs, hx⟩ := h.2.2 (by omega)
 refine ⟨ad, e, hB, hs, fun i x hi => hx i x ?_⟩
 rw [List.getElem?_take] at hi
 split at hi
 ·exact hi
 ·cases hi
/-- The slice as one cell. -/
def slice (d : Rd α) : Rd (List α) where
 sz := 1
 K := fun ok w xs cs => ∃ A c, cs = [.slice A xs.length c] ∧ xs.length ≤ c ∧ c ≤ 9223372036854775807 ∧ (A = none → c = 0) ∧ d.C ok w A xs.length xs
 len := fun ⟨A, c, h, _⟩ => by rw [h]; rfl
 one := fun ⟨A, c, h, _⟩ u hu => by rw [h, List.mem_singleton] at hu; rw [hu]; rfl
 move := fun hb ⟨A, c, h, hl, hm, hn, hc⟩ => ⟨A, c, h, hl, hm, hn, hc.move hb⟩
 mono := fun hB ⟨A, c, h, hl, hm, hn, hc⟩ => ⟨A, c, h, hl, hm, hn, hc.mono hB⟩
 bound := fun ⟨A, c, h, hl, hm, hn, hc⟩ => ⟨A, c, h, hl, hm, hn, hc.bound⟩
/-- A struct by its first field and the rest. -/
def pair (a : Rd α) (b : Rd β) : Rd (α × β) where
 sz := a.sz + b.sz
 K := fun ok w x cs => ∃ c0 c1, cs = c0 ++ c1 ∧ a.K ok w x.1 c0 ∧ b.K ok w x.2 c1
 len := fun ⟨c0, c1, h, h0, h1⟩ => by rw [h, List.length_append, a.len h0, b.len h1]
 one := fun ⟨c0, c1, h, h0, h1⟩ u hu => by
  rw [h, List.mem_append] at hu
  rcases hu with hu | hu
  ·exact a.one h0 u hu
  ·exact b.one h1 u hu
 move := fun hb ⟨c0, c1, h, h0, h1⟩ => ⟨c0, c1, h, a.move hb h0, b.move hb h1⟩
 mono := fun hB ⟨c0, c1, h, h0, h1⟩ => ⟨c0, c1, h, a.mono hB h0, b.mono hB h1⟩
 bound := fun ⟨c0, c1, h, h0, h1⟩ => ⟨c0, c1, h, a.bound h0, b.bound h1⟩
end Rd

/-! ### From the row's reading -/
/-- Whatever reads at type t is d's. -/
def Opens {α : Type} (P : Program) (t : TypeId) (d : Rd α) : Prop :=
 P.cellsOf t = d.sz ∧ ∀ {H : Type} (enc : TypeId × Value → H) (w : World) (fuel : Nat) (cs : List Value) (x : DataW H × List MemPlace), DataW.trod enc P w 0 (fun _ => true) true fuel t cs = some x → ∃ a, d.K (· < w.heap.size) w a cs
section
variable {P : Program} {t : TypeId}
theorem opens_int (ht : P.underlying t = some (.int .i64)) (hc : P.cellsOf t = 1) : Opens P t Rd.int :=
 ⟨hc, fun enc w fuel cs x h => by
  obtain ⟨a, e, _, hw⟩ := DataW.trod_int ht h
  exact ⟨a, e, bounds_i64 hw⟩⟩
theorem opens_bool (ht : P.underlying t = some .bool) (hc : P.cellsOf t = 1) : Opens P t Rd.bool :=
 ⟨hc, fun enc w fuel cs x h => by
  obtain ⟨a, e, _⟩ := DataW.trod_bool ht h
  exact ⟨a, e⟩⟩
theorem opens_str (ht : P.underlying t = some .string) (hc : P.cellsOf t = 1) : Opens P t Rd.str :=
 ⟨hc, fun enc w fuel cs x h => by
  obtain ⟨a, e, _, hm⟩ := DataW.trod_string ht h
  exact ⟨a, e, hm⟩⟩
theorem cell_of_cells {w : World} {base : Nat} {a : Addr} {n : Nat} {cs : List Value} (h : w.cells? base a n = some cs) (j : Nat) (u : Value) (hj : cs[j]? = some u) : w.cell? (a.add j) = some u := by
 obtain ⟨_, h2, h3⟩ := World.cells?_some h
 have hl : j < cs.length := (List.getElem?_eq_some_iff.1 hj).1
 have := h3 j (by omega)
 rw [this, hj]
theorem opens_slice {α : Type} {e : TypeId} {d : Rd α} (ht : P.underlying t = some (.slice e)) (hc : P.cellsOf t = 1) (hd : Opens P e d) (hs : 0 < d.sz) : Opens P t (Rd.slice d) :=
 ⟨hc, fun enc w fuel cs x h => by
  rcases Deep.open_slice ht h with ⟨rfl, _⟩ | ⟨a, len, cap, m, n, D, Pl, rfl, _, hl, hm, hmm, _, hx⟩
  ·exact ⟨[], none, 0, rfl, Nat.le_refl _, by omega, fun _ => rfl, Rd.C.nil _ _ _ _⟩
  ·simp only [if_true] at hmm
   subst hmm
   have hel : ∀ i, i < len → ∃ y : α, ∃ cs', d.K (· < w.heap.size) w y cs' ∧ w.cells? 0 (a.add (i * P.cellsOf e)) (P.cellsOf e) = some cs' := fun i hi => by
    obtain ⟨cs', h1, h2⟩ := hx i (by omega)
    obtain ⟨y, hy⟩ := hd.2 enc w n cs' _ h2
    exact ⟨y, cs', hy, h1⟩
   have hall : ∀ n, n ≤ len → ∃ ys : List α, ys.length = n ∧ ∀ i y, ys[i]? = some y → ∃ cs', d.K (· < w.heap.size) w y cs' ∧ w.cells? 0 (a.add (i * P.cellsOf e)) (P.cellsOf e) = some cs' := by
    intro n
    induction n with
    | zero => exact fun _ => ⟨[], rfl, fun i y h => by simp at h⟩
    | succ n ih =>
     intro hn
     obtain ⟨ys, hy, hys⟩ := ih (by omega)
     obtain ⟨y, cs', hk, hc'⟩ := hel n (by omega)
     refine ⟨ys ++ [y], by simp [hy], fun i z hz => ?_⟩
     rcases Nat.lt_or_ge i ys.length with hi | hi
     ·rw [List.getElem?_append_left hi] at hz
      exact hys i z hz
     ·have hi' : i = n := by
       have := (List.getElem?_eq_some_iff.1 hz).1
       simp at this
       omega
      subst hi'
      rw [List.getElem?_append_right hi] at hz
      have : y = z := by simpa [hy] using hz
      subst this
      exact ⟨cs', hk, hc'⟩
   obtain ⟨ys, hy, hys⟩ := hall len (Nat.le_refl _)
   refine ⟨ys, some a, m, by rw [hy], by omega, by simpa [maxLen] using hm, by simp, by rw [hy], by rw [hy]; have : m ≤ maxLen := hm; simp only [maxLen] at this; omega, fun hp => ?_⟩
   have hbl : a.block < w.heap.size := by
    obtain ⟨cs', hk, hc'⟩ := hys 0 (ys[0]'(by omega)) (List.getElem?_eq_getElem (by omega))
    have hb := World.cells?_block hc' (by rw [hd.1]; exact hs)
    simpa [Addr.add] using hb
   refine ⟨a, rfl, hbl, hbl, fun i y hi => ?_⟩
   obtain ⟨cs', hk, hc'⟩ := hys i y hi
   refine ⟨cs', hk, fun j u hj => ?_⟩
   have := cell_of_cells hc' j u hj
   rwa [Deep.add_add, hd.1] at this⟩
/-- The fields of a struct from an offset on. -/
structure OpensFs {α : Type} (P : Program) (off : Nat) (fs : List Field) (d : Rd α) : Prop where
 go : ∀ {H : Type} (enc : TypeId × Value → H) (w : World) (n : Nat) (cs : List Value), cs.length = off + d.sz → (∀ f ∈ fs, ∃ x, DataW.trod enc P w 0 (fun _ => true) true n f.type ((cs.drop f.offset).take (P.cellsOf f.type)) = some x) → ∃ a, d.K (· < w.heap.size) w a (cs.drop off)
theorem opensFs_one {α : Type} {d : Rd α} {off : Nat} {f : Field} (ho : f.offset = off) (hd : Opens P f.type d) : OpensFs P off [f] d := ⟨fun enc w n cs hl hf => by
 obtain ⟨x, hx⟩ := hf f (by simp)
 obtain ⟨a, ha⟩ := hd.2 enc w n _ x hx
 refine ⟨a, ?_⟩
 rw [ho, hd.1, List.take_of_length_le (by rw [List.length_drop]; omega)] at ha
 exact ha⟩
theorem opensFs_cons {α β : Type} {a : Rd α} {b : Rd β} {off : Nat} {f : Field} {fs : List Field} (ho : f.offset = off) (hd : Opens P f.type a) (hr : OpensFs P (off + a.sz) fs b) : OpensFs P off (f :: fs) (Rd.pair a b) := ⟨fun enc w n cs hl hf => by
 obtain ⟨x, hx⟩ := hf f (by simp)
 obtain ⟨y, hy⟩ := hd.2 enc w n _ x hx
 have hl' : cs.length = off + (a.sz + b.sz) := hl
 obtain ⟨z, hz⟩ := hr.go enc w n cs (by omega) (fun g hg => hf g (by simp [hg]))
 rw [ho, hd.1] at hy
 refine ⟨(y, z), _, _, ?_, hy, hz⟩
 rw [← List.drop_drop, List.take_append_drop]⟩
theorem opens_struct {α : Type} {d : Rd α} {fs : Array Field} (ht : P.underlying t = some (.struct fs)) (hc : P.cellsOf t = d.sz) (hd : OpensFs P 0 fs.toList d) : Opens P t d :=
 ⟨hc, fun enc w fuel cs x h => by
  obtain ⟨xs, n, _, _, hl, hlen, hf⟩ := DataW.trod_struct ht h
  have := hd.go enc w n cs (by rw [hl, hc]; omega) (fun f hf' => by
   obtain ⟨i, hi, e⟩ := List.mem_iff_getElem.1 hf'
   have h2 := hf i f (by rw [← Array.getElem?_toList]; rw [List.getElem?_eq_getElem hi, e])
   rw [h2, List.getElem?_eq_getElem (by rw [hlen]; simpa using hi)]
   exact ⟨_, rfl⟩)
  simpa using this⟩
/-- From an argument's reading. -/
theorem opens_arg {α : Type} {d : Rd α} (hd : Opens P t d) {H : Type} {enc : TypeId × Value → H} {w : World} {v : Value} {x : DataW H} {ps : List MemPlace} (h : DataW.Trod enc P w 0 (fun _ => true) true t v x ps) : ∃ a, d.K (· < w.heap.size) w a v.cells.toList := by
 obtain ⟨n, hn⟩ := h
 exact hd.2 enc w n _ _ hn
end
end Go.Proofs.YtkonkblfckhcbaaGreatDoor
namespace Go.Proofs.YtkonkblfckhcbaaGreatDoor
set_option linter.unusedVariables false
set_option linter.unusedSimpArgs false
open Go.RowKit

/-- v is a slice of the call's own (from block base on) that holds xs; what its elements lead to is ok, and is not v's own block. -/
structure Own {α : Type} (d : Rd α) (e : TypeId) (ok : Nat → Prop) (w : World) (base : Nat) (v : Value) (xs : List α) : Prop where
 ex : ∃ cells, w.ownsRow base e d.sz v xs.length cells ∧ ∀ i x, xs[i]? = some x → d.K (fun k => ok k ∧ some k ≠ v.ownBlock) w x ((cells.drop (i * d.sz)).take d.sz)

section
variable {α : Type} {d : Rd α} {e : TypeId} {ok : Nat → Prop} {w w1 : World} {base : Nat} {v : Value} {xs : List α}
theorem Own.nil (d : Rd α) (e : TypeId) (ok : Nat → Prop) (w : World) (base : Nat) : Own d e ok w base (.slice none 0 0) [] := ⟨[], World.ownsRow_nil _ _ _ _, fun i x h => by simp at h⟩
theorem own_moved {base : Nat} {size n : Nat} {cells : List Value} (h : w.ownsRow base e size v n cells) (hm : ∀ k, v.ownBlock = some k → w1.heap[k]? = w.heap[k]?) : w1.ownsRow base e size v n cells := by
 obtain ⟨h1, h2⟩ := h
 refine ⟨h1, ?_⟩
 rcases h2 with h2 | ⟨g, cap, cur, rfl, hg, hh, r⟩
 ·exact .inl h2
 ·exact .inr ⟨g, cap, cur, rfl, hg, (hm g (by simp [Value.ownBlock])).trans hh, r⟩
theorem Own.lt (h : Own d e ok w base v xs) (k : Nat) (hk : v.ownBlock = some k) : base ≤ k ∧ k < w.heap.size := by obtain ⟨c, h1, _⟩ := h.ex; exact h1.lt k hk
theorem Own.mono {ok' : Nat → Prop} (h : Own d e ok w base v xs) (hk : ∀ k, ok k → ok' k) : Own d e ok' w base v xs := by
 obtain ⟨c, h1, h2⟩ := h.ex
 exact ⟨c, h1, fun i x hi => d.mono (fun k hk' => ⟨hk k hk'.1, hk'.2⟩) (h2 i x hi)⟩
theorem Own.lower {base' : Nat} (h : Own d e ok w base v xs) (hb : base' ≤ base) : Own d e ok w base' v xs := by
 obtain ⟨c, ⟨h0, h1⟩, h2⟩ := h.ex
 refine ⟨c, ⟨h0, ?_⟩, h2⟩
 rcases h1 with h1 | ⟨g, cap, cur, hv, hg, r⟩
 ·exact .inl h1
 ·exact .inr ⟨g, cap, cur, hv, by omega, r⟩
/-- Nothing that it leads to, and not its own block, turns. -/
theorem Own.move (h : Own d e ok w base v xs) (hm : ∀ k, (ok k ∨ v.ownBlock = some k) → k < w.heap.size → w1.heap[k]? = w.heap[k]?) : Own d e ok w1 base v xs := by
 obtain ⟨c, h1, h2⟩ := h.ex
 exact ⟨c, own_moved h1 (fun k hk => hm k (.inr hk) (h1.lt k hk).2), fun i x hi => d.move (fun k hk hlt => hm k (.inl hk.1) hlt) (h2 i x hi)⟩
theorem Own.below (h : Own d e ok w base v xs) (hb : Below w.heap.size w w1) : Own d e ok w1 base v xs := h.move (fun k _ hk => hb.block k hk)
theorem Own.alloc (h : Own d e ok w base v xs) (o : Obj) : Own d e ok (w.alloc o) base v xs := h.move (fun k _ hk => Below.heap_alloc _ _ _ hk)
theorem Own.drew (h : Own d e ok w base v xs) : Own d e ok w.drew base v xs := h.move (fun _ _ _ => rfl)
theorem Own.drewN (h : Own d e ok w base v xs) (n : Nat) : Own d e ok (w.drewN n) base v xs := h.move (fun _ _ _ => rfl)
/-- Another row has been written. -/
theorem Own.grown (h : Own d e ok w base v xs) {row : Option Nat} (hg : w.grownBy w1 row) (hok : ∀ k, ok k → k < w.heap.size → some k ≠ row) (hv : v.ownBlock = none ∨ v.ownBlock ≠ row) : Own d e ok w1 base v xs :=
 h.move (fun k hk hlt => hg.block k hlt (by
  rcases hk with hk | hk
  ·exact hok k hk hlt
  ·rcases hv with hv | hv
   ·rw [hv] at hk; cases hk
   ·rw [← hk]; exact hv))
/-- It reads as xs. -/
theorem Own.reads (h : Own d e ok w base v xs) (hs : 0 < d.sz) : (Rd.slice d).K (fun k => ok k ∨ v.ownBlock = some k) w xs [v] := by
 obtain ⟨cells, ho, hx⟩ := h.ex
 obtain ⟨hl, h2⟩ := ho
 rcases h2 with ⟨rfl, hn⟩ | ⟨g, cap, cur, rfl, hb, hh, hc, hm, hsz, htk⟩
 ·have : xs = [] := List.eq_nil_of_length_eq_zero hn
  subst this
  exact ⟨none, 0, rfl, Nat.le_refl _, by omega, fun _ => rfl, Rd.C.nil _ _ _ _⟩
 ·refine ⟨some ⟨g, 0, none⟩, cap, rfl, hc, by simpa [maxLen] using hm, by simp, rfl, by simp only [maxLen] at hm; omega, fun hp => ⟨_, rfl, .inr rfl, (Array.getElem?_eq_some_iff.1 hh).1, fun i x hi => ⟨_, d.mono (fun k hk => .inl hk.1) (hx i x hi), fun j u hj => ?_⟩⟩⟩
  have hi' : i < xs.length := (List.getElem?_eq_some_iff.1 hi).1
  rw [List.getElem?_take] at hj
  split at hj
  ·rw [List.getElem?_drop] at hj
   exact World.ownsRow.cells (w := w) (base := base) (e := e) (size := d.sz) (n := xs.length) (xs := cells) ⟨hl, .inr ⟨g, cap, cur, rfl, hb, hh, hc, hm, hsz, htk⟩⟩ rfl _ _ hj
  ·cases hj
/-- The cells of a slice that is read, one behind the other. -/
theorem flat_cells {A : Addr} {n : Nat} (h : d.C ok w (some A) n xs) : ∃ news : List Value, news.length = n * d.sz ∧ (∀ j u, news[j]? = some u → w.cell? (A.add j) = some u) ∧ (∀ u ∈ news, u.oneCell' = true) ∧ ∀ i x, xs[i]? = some x → d.K ok w x ((news.drop (i * d.sz)).take d.sz) := by
 have key : ∀ m, m ≤ n → ∃ news : List Value, news.length = m * d.sz ∧ (∀ j u, news[j]? = some u → w.cell? (A.add j) = some u) ∧ (∀ u ∈ news, u.oneCell' = true) ∧ ∀ i x, i < m → xs[i]? = some x → d.K ok w x ((news.drop (i * d.sz)).take d.sz) := by
  intro m
  induction m with
  | zero => exact fun _ => ⟨[], by simp, fun j u hj => by simp at hj, fun u hu => by simp at hu, fun i x hi => by omega⟩
  | succ m ih =>
   intro hm
   obtain ⟨news, h1, h2, h3, h4⟩ := ih (by omega)
   have hlen := h.1
   obtain ⟨ad, cs, e1, _, _, hk, hc⟩ := h.at_ m (xs[m]'(by omega)) (List.getElem?_eq_getElem (by omega))
   injection e1 with e1
   subst e1
   have hcl := d.len hk
   refine ⟨news ++ cs, by rw [List.length_append, h1, hcl, Nat.succ_mul], fun j u hj => ?_, fun u hu => ?_, fun i x hi hx => ?_⟩
   ·rcases Nat.lt_or_ge j news.length with hjl | hjl
    ·rw [List.getElem?_append_left hjl] at hj; exact h2 j u hj
    ·rw [List.getElem?_append_right hjl] at hj
     have := hc _ _ hj
     rwa [show m * d.sz + (j - news.length) = j by omega] at this
   ·rw [List.mem_append] at hu
    rcases hu with hu | hu
    ·exact h3 u hu
    ·exact d.one hk u hu
   ·rcases Nat.lt_or_ge i m with him | him
    ·have hle : i * d.sz + d.sz ≤ news.length := by rw [h1, ← Nat.succ_mul]; exact Nat.mul_le_mul_right _ him
     rw [List.drop_append_of_le_length (by omega), List.take_append_of_le_length (by rw [List.length_drop]; omega)]
     exact h4 i x him hx
    ·obtain rfl : i = m := by omega
     rw [List.getElem?_eq_getElem (by omega)] at hx
     injection hx with hx
     subst hx
     rw [← h1, List.drop_left, ← hcl, List.take_length]
     exact hk
 obtain ⟨news, h1, h2, h3, h4⟩ := key n (Nat.le_refl _)
 exact ⟨news, h1, h2, h3, fun i x hx => h4 i x (by have := (List.getElem?_eq_some_iff.1 hx).1; have := h.1; omega) hx⟩
end

section
variable {P : Program} {α : Type} {d : Rd α} {e t : TypeId} {ok okp : Nat → Prop} {w : World} {base : Nat} {v : Value} {xs ys : List α} {z : Value} {bytes : Nat}
/-- append(v, ys...): as an equation on the run, for the walk. -/
theorem Own.append (h : Own d e ok w base v xs) (ht : P.underlying t = some (.slice e)) (hinfo : (P.info? e).map (fun i => (i.zero, i.size, i.bytes)) = some (some z, d.sz, bytes)) (hz : z.cells.size = d.sz) (hs0 : 0 < d.sz) (hb0 : 0 < bytes)
  (A : Option Addr) (m c : Nat) (hA : A = none → m = 0 ∧ c = 0) (hC : d.C okp w A m ys) (hok : ∀ k, okp k → ok k ∧ some k ≠ v.ownBlock) (hl : (xs.length + m) * bytes ≤ 140737488355328) (hbase : base ≤ w.heap.size) (ty : TypeId) :
  ∃ v1 w1, (Builtin.append_ #[t, t] ty #[v, .slice A m c]).run P w = .ok v1 w1 ∧ Own d e ok w1 base v1 (xs ++ ys) ∧ w.grownBy w1 v.ownBlock ∧ (v1.ownBlock = v.ownBlock ∨ v1.ownBlock = some w.heap.size) := by
 obtain ⟨i0, hi, hzz⟩ := Option.map_eq_some_iff.1 hinfo
 simp only [Prod.mk.injEq] at hzz
 obtain ⟨hz0, hz1, hz2⟩ := hzz
 obtain ⟨cells, ho, hx⟩ := h.ex
 cases A with
 | none =>
  obtain ⟨rfl, rfl⟩ := hA rfl
  have hy : ys = [] := List.eq_nil_of_length_eq_zero hC.1
  subst hy
  exact ⟨v, w, run_append_owned_none w base t ty e i0 d.sz ht hi v _ cells ho, by simpa using h, ⟨rfl, rfl, rfl, Nat.le_refl _, fun _ _ _ => rfl⟩, .inl rfl⟩
 | some a =>
  have hlen : xs.length + m ≤ 140737488355328 := Nat.le_trans (Nat.le_mul_of_pos_right _ hb0) hl
  obtain ⟨news, n1, n2, n3, n4⟩ := flat_cells hC
  obtain ⟨v1, w1, hr, ho1, hg, _, hat⟩ := run_append_own_at (P := P) w base t ty e i0 z d.sz bytes ht hi hz0 hz1 hz2 hz hs0 v xs.length cells ho a m c news n1 n2 n3 (by simp only [maxLen]; omega) hl hbase
  refine ⟨v1, w1, hr, ⟨cells ++ news, by rw [List.length_append, hC.1]; exact ho1, fun i x hi => ?_⟩, hg, hat⟩
  have hne : ∀ k, some k ≠ v.ownBlock → k < w.heap.size → some k ≠ v1.ownBlock := by
   intro k hk hlt
   rcases hat with hat | hat
   ·rw [hat]; exact hk
   ·rw [hat]; intro he; injection he with he; omega
  have step : ∀ {x : α} {cs : List Value}, d.K (fun k => ok k ∧ some k ≠ v.ownBlock) w x cs → d.K (fun k => ok k ∧ some k ≠ v1.ownBlock) w1 x cs := fun hk =>
   d.mono (fun k hk => ⟨hk.1.1, hne k hk.1.2 hk.2⟩) (d.move (fun k hk hlt => hg.block k hlt hk.1.2) (d.bound hk))
  have hcl : cells.length = xs.length * d.sz := ho.1
  rcases Nat.lt_or_ge i xs.length with hi' | hi'
  ·rw [List.getElem?_append_left hi'] at hi
   have hle : i * d.sz + d.sz ≤ cells.length := by rw [hcl, ← Nat.succ_mul]; exact Nat.mul_le_mul_right _ hi'
   rw [List.drop_append_of_le_length (by omega), List.take_append_of_le_length (by rw [List.length_drop]; omega)]
   exact step (hx i x hi)
  ·rw [List.getElem?_append_right hi'] at hi
   have e1 : i * d.sz = cells.length + (i - xs.length) * d.sz := by rw [hcl, ← Nat.add_mul]; congr 1; omega
   rw [e1, ← List.drop_drop, List.drop_left]
   exact step (d.mono hok (n4 _ _ hi))
end
/-- At the operation: an append whose run is known. -/
theorem wpList_append_eq {P : Program} {ops : Array Oper} {rest : List Oper} {o : Oper} {a : Act} {Q : Exit → Act → World → Prop} {w w1 : World} {v1 : Value} (hgd : o.guard = none) (s x : Operand) (t : TypeId)
  (ho : o.op = .call { callee := .builtin .append, args := #[s, x], argTypes := #[t, t] }) (v y : Value) (hs : a.eval s = v) (hx : a.eval x = y) (hr : (Builtin.append_ #[t, t] o.type #[v, y]).run P w = .ok v1 w1)
  (h : wpList P ops Q rest (a.put o.dst v1) w1) : wpList P ops Q (o :: rest) a w := by
 refine wpList_plain hgd fun K hK => ?_
 unfold Oper.wp execOp
 simp only [ho, resolve, invoke, builtin, Sem.run_bind, Sem.run_pure, Result.andThen_ok, List.map_toArray, List.map_cons, List.map_nil, hs, hx, hr]
 exact hK _ _ h
end Go.Proofs.YtkonkblfckhcbaaGreatDoor
namespace Go.Proofs.YtkonkblfckhcbaaGreatDoor
open Go.RowKit
def globL1 : List Int := [0, 0, 0, 0, 0, 0, 0, 0, 0, 1, 1, 1, 1, 1, 0, 0, 0, 0, 0, 0, 0, 0, 0, 0, 0, 0, 0, 0, 0, 0, 0, 0, 1, 0, 0, 0, 0, 0, 0, 0, 0, 0, 0, 0, 0, 0, 0, 0, 0, 0, 0, 0, 0, 0, 0, 0, 0, 0, 0, 0, 0, 0, 0, 0, 0, 0, 0, 0, 0, 0, 0, 0, 0, 0, 0, 0, 0, 0, 0, 0, 0, 0, 0, 0, 0, 0, 0, 0, 0, 0, 0, 0, 0, 0, 0, 0, 0, 0, 0, 0, 0, 0, 0, 0, 0, 0, 0, 0, 0, 0, 0, 0, 0, 0, 0, 0, 0, 0, 0, 0, 0, 0, 0, 0, 0, 0, 0, 0, 0, 0, 0, 0, 0, 0, 0, 0, 0, 0, 0, 0, 0, 0, 0, 0, 0, 0, 0, 0, 0, 0, 0, 0, 0, 0, 0, 0, 0, 0, 0, 0, 0, 0, 0, 0, 0, 0, 0, 0, 0, 0, 0, 0, 0, 0, 0, 0, 0, 0, 0, 0, 0, 0, 0, 0, 0, 0, 0, 0, 0, 0, 0, 0, 0, 0, 0, 0, 0, 0, 0, 0, 0, 0, 0, 0, 0, 0, 0, 0, 0, 0, 0, 0, 0, 0, 0, 0, 0, 0, 0, 0, 0, 0, 0, 0, 0, 0, 0, 0, 0, 0, 0, 0, 0, 0, 0, 0, 0, 0, 0, 0, 0, 0, 0, 0, 0, 0, 0, 0, 0, 0, 0, 0, 0, 0, 0, 0]
def globsRaw : List (Nat × IntKind × List Int) := [(0, .u8, globL1)]
end Go.Proofs.YtkonkblfckhcbaaGreatDoor
namespace Go.Proofs.YtkonkblfckhcbaaGreatDoor
set_option linter.unusedVariables false
set_option linter.unusedSimpArgs false
open Go.RowKit Go.Maps

/-- Any value of a map reads as itself. -/
def selfR (v : Value) : Option (DataW Value × List MemPlace) := some (.held v, [])

/-- Block b of w is a map of at most n entries; at each key it has what f says. -/
def MapIs (P : Program) (k : TypeId) (w : World) (b n : Nat) (f : Value → Option Value) : Prop :=
 ∃ D : DataW Value, w.ownsMap P k selfR b n D ∧ ∀ key kl, keyOf P k key = some kl → Maps.has D kl = (f key).isSome ∧ ∀ z, D.atKey kl (.held z) = .held ((f key).getD z)

/-- f, but v at a key. -/
noncomputable def updF (f : Value → Option Value) (key v : Value) : Value → Option Value := fun x => by classical exact if x = key then some v else f x
theorem updF_same (f : Value → Option Value) (key v : Value) : updF f key v key = some v := by simp [updF]
theorem updF_other (f : Value → Option Value) {key x : Value} (v : Value) (h : x ≠ key) : updF f key v x = f x := by simp [updF, h]

section
variable {P : Program} {k : TypeId} {w w1 : World} {b n : Nat} {f : Value → Option Value}

theorem MapIs.made (P : Program) (k : TypeId) (w : World) : MapIs P k (w.alloc (.map #[] 0)) w.heap.size 0 (fun _ => none) :=
 ⟨.map [], World.ownsMap_made _ _ _ _, fun key kl _ => ⟨rfl, fun z => rfl⟩⟩
theorem MapIs.lt (h : MapIs P k w b n f) : b < w.heap.size := by obtain ⟨D, ho, _⟩ := h; exact ho.lt
theorem MapIs.kept (h : MapIs P k w b n f) {row : Option Nat} (hg : w.grownBy w1 row) (hne : some b ≠ row) : MapIs P k w1 b n f := by
 obtain ⟨D, ho, hf⟩ := h
 exact ⟨D, ho.kept hg hne, hf⟩
theorem MapIs.below (h : MapIs P k w b n f) {B : Nat} (hb : Below B w w1) (hB : b < B) : MapIs P k w1 b n f := by
 obtain ⟨D, ⟨es, clock, h1, h2⟩, hf⟩ := h
 exact ⟨D, ⟨es, clock, by rw [hb.block b hB]; exact h1, h2⟩, hf⟩
theorem MapIs.block (h : MapIs P k w b n f) (hb : w1.heap[b]? = w.heap[b]?) : MapIs P k w1 b n f := by
 obtain ⟨D, ⟨es, clock, h1, h2⟩, hf⟩ := h
 exact ⟨D, ⟨es, clock, by rw [hb]; exact h1, h2⟩, hf⟩
theorem MapIs.drew (h : MapIs P k w b n f) : MapIs P k w.drew b n f := h.block rfl
theorem MapIs.alloc (h : MapIs P k w b n f) (o : Obj) : MapIs P k (w.alloc o) b n f := h.kept (World.grownBy_alloc w o none) (by simp)
theorem MapIs.setCell (h : MapIs P k w b n f) {a : Addr} (ha : b ≠ a.block) (u : Value) : MapIs P k (w.setCell a u) b n f := by
 obtain ⟨D, ho, hf⟩ := h
 exact ⟨D, ho.setCell ha u, hf⟩
theorem MapIs.mono (h : MapIs P k w b n f) {n' : Nat} (hn : n ≤ n') : MapIs P k w b n' f := by
 obtain ⟨D, ho, hf⟩ := h
 exact ⟨D, ho.mono hn, hf⟩

/-- 'v, ok := m[key]'. -/
theorem MapIs.look_ok (h : MapIs P k w b n f) {t e : TypeId} (K : Keyed P k) (ht : P.underlying t = some (.map k e)) {z : Value} (hz : (zeroValue e).run P w = .ok z w) {key : Value} {kl : Lit} (hkey : keyOf P k key = some kl) :
  (Instr.lookup t (.map (some b)) key true).run P w = .ok (.tuple #[(f key).getD z, .bool (f key).isSome]) w := by
 obtain ⟨D, ho, hf⟩ := h
 obtain ⟨v, ps, hr, hv⟩ := ho.look_ok K ht hz (zd := .held z) (zp := []) rfl hkey
 obtain ⟨h1, h2⟩ := hf key kl hkey
 rw [h2 z, selfR] at hv
 injection hv with hv
 injection hv with hv _
 injection hv with hv
 rw [hr, hv, h1]
/-- 'm[key]'. -/
theorem MapIs.look (h : MapIs P k w b n f) {t e : TypeId} (K : Keyed P k) (ht : P.underlying t = some (.map k e)) {z : Value} (hz : (zeroValue e).run P w = .ok z w) {key : Value} {kl : Lit} (hkey : keyOf P k key = some kl) :
  (Instr.lookup t (.map (some b)) key false).run P w = .ok ((f key).getD z) w := by
 obtain ⟨D, ho, hf⟩ := h
 obtain ⟨v, ps, hr, hv⟩ := ho.lookup K ht hz (zd := .held z) (zp := []) rfl hkey
 obtain ⟨h1, h2⟩ := hf key kl hkey
 rw [h2 z, selfR] at hv
 injection hv with hv
 injection hv with hv _
 injection hv with hv
 rw [hr, hv]
theorem MapIs.len (h : MapIs P k w b n f) {t e : TypeId} (ht : P.underlying t = some (.map k e)) : ∃ s : Nat, s ≤ n ∧ ∀ w1 : World, w1.heap[b]? = w.heap[b]? → ∀ ty, (Builtin.len_ #[t] ty #[.map (some b)]).run P w1 = .ok (.int .i64 (s : Int)) w1 := by
 obtain ⟨D, ho, hf⟩ := h
 refine ⟨Maps.size D, ho.size_le, fun w1 hb ty => ?_⟩
 obtain ⟨es, clock, h1, h2⟩ := ho
 exact World.ownsMap.len (⟨es, clock, hb.trans h1, h2⟩ : w1.ownsMap P k selfR b n D) ht ty
/-- 'm[key] = v'. -/
theorem MapIs.store (h : MapIs P k w b n f) {t e : TypeId} (K : Keyed P k) (ht : P.underlying t = some (.map k e)) (hn : n < maxLen) {key : Value} {kl : Lit} (hkey : keyOf P k key = some kl) (v : Value) :
  ∃ w', (Instr.mapUpdate t (.map (some b)) key v).run P w = .ok () w' ∧ MapIs P k w' b (n + 1) (updF f key v) ∧ w.mapTurned w' b := by
 obtain ⟨D, ho, hf⟩ := h
 obtain ⟨w', hr, ho', ht'⟩ := ho.store K ht hn hkey (val := v) (d := .held v) (ps := []) rfl
 refine ⟨w', hr, ⟨_, ho', fun key' kl' hk' => ?_⟩, ht'⟩
 by_cases he : key' = key
 ·subst he
  obtain rfl : kl' = kl := by rw [hkey] at hk'; injection hk' with hk'; exact hk'.symm
  rw [updF_same]
  exact ⟨Maps.has_put_same ho.isMap (K.key hkey) _, fun z => Maps.atKey_put_same ho.isMap (K.key hkey) _ _⟩
 ·have hne : kl' ≠ kl := fun e => he (K.inj (e ▸ hk') hkey)
  rw [updF_other _ _ he]
  obtain ⟨h1, h2⟩ := hf key' kl' hk'
  exact ⟨by rw [Maps.has_put_other hne, h1], fun z => by rw [Maps.atKey_put_other hne, h2]⟩
end
end Go.Proofs.YtkonkblfckhcbaaGreatDoor
namespace Go.Proofs.YtkonkblfckhcbaaGreatDoor
set_option linter.unusedVariables false
set_option linter.unusedSimpArgs false
open Go.RowKit

/-- Plain data by codes. -/
inductive Ty where
 | int (k : IntKind)
 | bool
 | str
 | pair (a b : Ty)
 | slice (e : Ty)
deriving DecidableEq
@[reducible] def Ty.El : Ty → Type
 | .int _ => Int
 | .bool => Bool
 | .str => ByteArray
 | .pair a b => a.El × b.El
 | .slice e => List e.El
def Ty.dflt : (t : Ty) → t.El
 | .int _ => (0 : Int)
 | .bool => false
 | .str => ByteArray.empty
 | .pair a b => (a.dflt, b.dflt)
 | .slice _ => []
def Ty.sz : Ty → Nat
 | .pair a b => a.sz + b.sz
 | _ => 1

/-- Rows of rows of one's own, by codes: 'slice' is a row that its holder owns, with its elements' type. -/
inductive Sk where
 | int (k : IntKind)
 | bool
 | str
 | ro (e : Ty)
 | pair (a b : Sk)
 | slice (e : TypeId) (s : Sk)
deriving DecidableEq
@[reducible] def Sk.ty : Sk → Ty
 | .int k => .int k
 | .bool => .bool
 | .str => .str
 | .ro e => .slice e
 | .pair a b => .pair a.ty b.ty
 | .slice _ s => .slice s.ty
/-- No row of one's own in it. -/
def Sk.flat : Sk → Bool
 | .pair a b => a.flat && b.flat
 | .slice _ _ => false
 | _ => true
/-- What one cell holds. -/
inductive CV where
 | junk
 | int (k : IntKind) (n : Int)
 | bool (b : Bool)
 | lit (b : Bool)
 | str (s : ByteArray)
 | flt (n : Nat)
 | flo (op : BinOp) (a b : Nat)
 | ro (e : Ty) (xs : List e.El)
 | sl (b s i n : Nat)
 | osl (b s n : Nat)
 | pre (b s n : Nat)
 | nilsl
 | ptr (b s i j : Nat)
 | pro (e : Ty) (xs : List e.El) (i j : Nat)
 | nilptr
 | map (b : Nat)
 | nilmap
 | fn0 (f : Nat)
 | fnc (g c : CV)
 | nilfn
inductive A1 where
 | c (v : CV)
 | agg (cs : List CV)
inductive AV where
 | junk
 | one (a : A1)
 | tup (l : List A1)
abbrev AV.c (v : CV) : AV := .one (.c v)
abbrev AV.agg (cs : List CV) : AV := .one (.agg cs)
def A1.cells : A1 → List CV
 | .c v => [v]
 | .agg cs => cs
/-- A block of memory of the call's own. -/
inductive AB where
 | dead
 | cells (e : TypeId) (cs : List CV)
 | vec (e : TypeId) (t : Ty) (xs : List t.El)
 | ovec (e : TypeId) (t : Ty) (xs : List t.El)
 | map (k : TypeId) (kt et : Ty) (n : Nat) (m : kt.El → Option et.El)
 | nest (e : TypeId) (s : Sk) (xs : List s.ty.El) (ko : Option (Nat × Nat)) (hi : Nat) (hs : List (Nat × CV))
/-- What lies at a place of an element. -/
inductive Slot where
 | cv (c : CV)
 | sl (e : TypeId) (s : Sk) (ys : List s.ty.El)
 | no
def Sk.slot : (s : Sk) → s.ty.El → Nat → Slot
 | .int k, x, 0 => .cv (.int k x)
 | .bool, x, 0 => .cv (.bool x)
 | .str, x, 0 => .cv (.str x)
 | .ro e, x, 0 => .cv (.ro e x)
 | .slice e s, x, 0 => .sl e s x
 | .pair a b, x, j => if j < a.ty.sz then a.slot x.1 j else b.slot x.2 (j - a.ty.sz)
 | _, _, _ => .no
/-- A place of an element that holds no row of one's own, written. -/
def Sk.set1 : (s : Sk) → s.ty.El → Nat → CV → Option s.ty.El
 | .int k, _, 0, .int k' n => if k' = k then some n else none
 | .bool, _, 0, .bool b => some b
 | .bool, _, 0, .lit b => some b
 | .str, _, 0, .str b => some b
 | .ro e, _, 0, .ro e' xs => if h : e' = e then some (h ▸ xs) else none
 | .ro _, _, 0, .nilsl => some []
 | .pair a b, x, j, c => if j < a.ty.sz then (match a.set1 x.1 j c with
  | some y => some (y, x.2)
  | none => none) else (match b.set1 x.2 (j - a.ty.sz) c with
  | some y => some (x.1, y)
  | none => none)
 | _, _, _, _ => none
/-- No row of one's own at places from o on, n of them. -/
def Sk.noSl : (s : Sk) → Nat → Nat → Bool
 | .slice _ _, o, n => !(Nat.beq o 0 && Nat.blt 0 n)
 | .pair a b, o, n => a.noSl o n && b.noSl (o - a.ty.sz) (n - (a.ty.sz - o))
 | _, _, _ => true
def holeAt : List (Nat × CV) → Nat → Option CV
 | [], _ => none
 | p :: r, j => if Nat.beq p.1 j then some p.2 else holeAt r j
def holePut : List (Nat × CV) → Nat → CV → List (Nat × CV)
 | [], j, c => [(j, c)]
 | p :: r, j, c => if Nat.beq p.1 j then (j, c) :: r else p :: holePut r j c
def holeDel : List (Nat × CV) → Nat → List (Nat × CV)
 | [], _ => []
 | p :: r, j => if Nat.beq p.1 j then r else p :: holeDel r j

/-- An element's cells. -/
def Ty.enc : (t : Ty) → t.El → List CV
 | .int k, n => [.int k n]
 | .bool, b => [.bool b]
 | .str, s => [.str s]
 | .pair a b, p => a.enc p.1 ++ b.enc p.2
 | .slice e, xs => [.ro e xs]
/-- Cells as an element. -/
def Ty.dec : (t : Ty) → List CV → Option (t.El × List CV)
 | .int k, .int k' n :: r => if k = k' then some (n, r) else none
 | .bool, .bool b :: r => some (b, r)
 | .bool, .lit b :: r => some (b, r)
 | .str, .str s :: r => some (s, r)
 | .pair a b, cs =>
  match a.dec cs with
  | some (x, r) => match b.dec r with
   | some (y, r') => some ((x, y), r')
   | none => none
  | none => none
 | .slice e, .ro e' xs :: r => if h : e' = e then some (h ▸ xs, r) else none
 | .slice e, .nilsl :: r => some ([], r)
 | _, _ => none

/-- What is still to be shown. -/
inductive Tree where
 | ret (v : AV) (H : List AB)
 | ite (b : Bool) (t e : Tree)
 | need (p : Prop) (t : Tree)
 | call (f : Nat) (args : List AV) (fz : Bool) (r : AV) (t : Tree)
 | callH (f : Nat) (args : List AV) (H : List AB) (r : AV) (H' : List AB) (wr : List Nat) (t : Tree)
 | stop (todo : List Item) (env : List AV) (H : List AB)
 | fail (why : Nat)

def inR (k : IntKind) (n : Int) : Prop := k.min ≤ n ∧ n ≤ k.max
instance (k : IntKind) (n : Int) : Decidable (inR k n) := by unfold inR; infer_instance

/-! data without memory: a map's keys and values -/
def Ty.deq : (t : Ty) → DecidableEq t.El
 | .int _ => inferInstanceAs (DecidableEq Int)
 | .bool => inferInstanceAs (DecidableEq Bool)
 | .str => inferInstanceAs (DecidableEq ByteArray)
 | .pair a b => @instDecidableEqProd _ _ a.deq b.deq
 | .slice e => @instDecidableEqList _ e.deq
def updM {kt : Ty} {α : Type} (m : kt.El → Option α) (x : kt.El) (v : α) : kt.El → Option α := fun y => @ite _ (y = x) (kt.deq y x) (some v) (m y)
def Ty.plain : Ty → Bool
 | .pair a b => a.plain && b.plain
 | .slice _ => false
 | _ => true
def Ty.isPair : Ty → Bool
 | .pair _ _ => true
 | _ => false
def plainCs : (t : Ty) → t.El → List Value
 | .int k, n => [.int k n]
 | .bool, b => [.bool b]
 | .str, s => [.string s]
 | .pair a b, p => plainCs a p.1 ++ plainCs b p.2
 | .slice _, _ => []
def plainV (t : Ty) (x : t.El) : Value := if t.isPair then .agg (plainCs t x).toArray else (plainCs t x).headD (.tuple #[])
def decA (t : Ty) (a : AV) : Option t.El := match a with
 | .one (.agg cs) => if t.isPair then (match t.dec cs with
  | some (x, []) => some x
  | _ => none) else none
 | .one (.c c) => if t.isPair then none else (match t.dec [c] with
  | some (x, []) => some x
  | _ => none)
 | _ => none
def encA (t : Ty) (x : t.El) : A1 := if t.isPair then .agg (t.enc x) else .c ((t.enc x).headD .junk)
def Ty.ok : (t : Ty) → t.El → Prop
 | .int k, n => inR k n
 | .bool, _ => True
 | .str, s => s.size ≤ 9223372036854775807
 | .pair a b, p => a.ok p.1 ∧ b.ok p.2
 | .slice e, xs => xs.length ≤ 9223372036854775807 ∧ ∀ x ∈ xs, e.ok x
/-- Keys of type k are data of code kt. -/
def MapLaw (P : Program) (k : TypeId) (kt : Ty) : Prop := Maps.Keyed P k ∧ ∀ x : kt.El, kt.ok x → ∃ kl, keyOf P k (plainV kt x) = some kl

def constC : Value → Option CV
 | .int k n => if inR k n then some (.int k n) else none
 | .bool b => some (.lit b)
 | .string s => if s.size ≤ 9223372036854775807 then some (.str s) else none
 | .float .f64 n => some (.flt n)
 | .pointer none => some .nilptr
 | .slice none 0 0 => some .nilsl
 | .map none => some .nilmap
 | .nilFunc => some .nilfn
 | _ => none
def constCs : List Value → Option (List CV)
 | [] => some []
 | v :: r => match constC v, constCs r with
  | some c, some cs => some (c :: cs)
  | _, _ => none
def constV : Value → AV
 | .agg cs => match constCs cs.toList with
  | some l => .agg l
  | none => .junk
 | v => match constC v with
  | some c => .c c
  | none => .junk
/-- A global variable's row. -/
def globOf : List (Nat × IntKind × List Int) → Nat → Option (IntKind × List Int)
 | [], _ => none
 | a :: r, g => if Nat.beq a.1 g then some (a.2.1, a.2.2) else globOf r g
def ev (env : List AV) : Operand → AV
 | .tmp t => env.getD t .junk
 | .const v => constV v
 | .global g => match globOf globsRaw g with
  | some (k, xs) => if xs.isEmpty then .junk else .c (.pro (.int k) xs 0 0)
  | none => .junk
 | .func f => .c (.fn0 f)
/-- What follows an operation: its value, memory then, the blocks that it read, the blocks that it wrote. -/
abbrev Kont := AV → List AB → List Nat → List Nat → Tree

def arith (k : IntKind) (r : Int) (H : List AB) (K : Kont) : Tree := .need (inR k r) (K (.c (.int k r)) H [] [])
def aBool (b : Bool) (H : List AB) (K : Kont) : Tree := K (.c (.bool b)) H [] []
/-- By a bool: where it is known, one way alone. -/
def onB (v : AV) (A B : Tree) : Tree := match v with
 | .one (.c (.lit true)) => A
 | .one (.c (.lit false)) => B
 | .one (.c (.bool b)) => .ite b A B
 | _ => .fail 5
def eqC (d : TypeDesc) : CV → CV → Option Bool
 | .int k a, .int k' b => match d with
  | .int _ => if k = k' then some (decide (a = b)) else none
  | _ => none
 | .str a, .str b => match d with
  | .string => some (decide (a = b))
  | _ => none
 | .bool a, .bool b | .bool a, .lit b | .lit a, .bool b | .lit a, .lit b => match d with
  | .bool => some (a == b)
  | _ => none
 | .nilptr, .nilptr => match d with
  | .pointer _ => some true
  | _ => none
 | .nilptr, .ptr .. | .ptr .., .nilptr => match d with
  | .pointer _ => some false
  | _ => none
 | .nilsl, .nilsl => match d with
  | .slice _ => some true
  | _ => none
 | .nilsl, .sl .. | .sl .., .nilsl | .nilsl, .pre .. | .pre .., .nilsl => match d with
  | .slice _ => some false
  | _ => none
 | .nilmap, .nilmap => match d with
  | .map _ _ => some true
  | _ => none
 | .nilmap, .map .. | .map .., .nilmap => match d with
  | .map _ _ => some false
  | _ => none
 | .nilfn, .nilfn => match d with
  | .func _ _ _ => some true
  | _ => none
 | .nilfn, .fn0 .. | .fn0 .., .nilfn | .nilfn, .fnc .. | .fnc .., .nilfn => match d with
  | .func _ _ _ => some false
  | _ => none
 | _, _ => none
/-- What is known of the functions that are called. -/
structure Orc where
 pure : Nat → List AV → Option AV
 heap : Nat → List AV → List AB → Option (AV × List AB × List Nat)
section
variable (P : Program) (oc : Orc)
def isAggB (t : TypeId) : Option Bool := match P.underlying t with
 | some (.struct _) => some true
 | some (.array _ _) => some true
 | some _ => some false
 | none => none
def szT (t : TypeId) : Option Nat := (P.info? t).map (·.size)
/-- A part of a struct. -/
def partC (t : TypeId) (cs : List CV) (off : Nat) : Option A1 := match isAggB P t, szT P t with
 | some true, some n => if off + n ≤ cs.length then some (.agg ((cs.drop off).take n)) else none
 | some false, _ => match cs[off]? with
  | some c => some (.c c)
  | none => none
 | _, _ => none
def eqFs (go : TypeId → A1 → A1 → Option Bool) (xs ys : List CV) : List Field → Option Bool
 | [] => some true
 | f :: fs => if f.name = "_" then none else match partC P f.type xs f.offset, partC P f.type ys f.offset with
  | some a, some b => match go f.type a b, eqFs go xs ys fs with
   | some r, some r' => some (r && r')
   | _, _ => none
  | _, _ => none
def eqTC : Nat → TypeId → A1 → A1 → Option Bool
 | 0, _, _, _ => none
 | n + 1, t, x, y => match P.underlying t with
  | some (.struct fs) => match x, y with
   | .agg xs, .agg ys => if P.stoodInHeld t = false then eqFs P (eqTC n) xs ys fs.toList else none
   | _, _ => none
  | some d => match x, y with
   | .c a, .c b => eqC d a b
   | _, _ => none
  | none => none
def eqTop (t : TypeId) (x y : AV) : Option Bool := match x, y with
 | .one (.c a), .one (.c b) => eqTC P 1 t (.c a) (.c b)
 | .one (.agg a), .one (.agg b) => if P.eqGuardType P.depth t = false then eqTC P 8 t (.agg a) (.agg b) else none
 | _, _ => none
/-- Bit by bit. -/
def bitsF (op : BinOp) (k : IntKind) (x y : Int) : Int :=
 let a := BitVec.ofInt k.bits x
 let b := BitVec.ofInt k.bits y
 k.wrap (match op with
  | .and => (a &&& b).toNat
  | .or => (a ||| b).toNat
  | .xor => (a ^^^ b).toNat
  | _ => (a &&& ~~~b).toNat)
/-- Operations on floats; what arithmetic tells may be any NaN. -/
def fOrd (a b : Nat) : Option Ordering := FloatKind.f64.format.order a b
def aFlt (op : BinOp) (a b : Nat) (H : List AB) (K : Kont) : Tree :=
 match op with
 | .eql => aBool (fOrd a b == some .eq) H K
 | .neq => aBool (fOrd a b != some .eq) H K
 | .lss => aBool (fOrd a b == some .lt) H K
 | .leq => aBool (fOrd a b == some .lt || fOrd a b == some .eq) H K
 | .gtr => aBool (fOrd a b == some .gt) H K
 | .geq => aBool (fOrd a b == some .gt || fOrd a b == some .eq) H K
 | .add => K (.c (.flo .add a b)) H [] []
 | .sub => K (.c (.flo .sub a b)) H [] []
 | .mul => K (.c (.flo .mul a b)) H [] []
 | .quo => K (.c (.flo .quo a b)) H [] []
 | _ => .fail 140
def fltsOf : AV → AV → Option (Nat × Nat)
 | .one (.c (.flt a)), .one (.c (.flt b)) => some (a, b)
 | _, _ => none
def aBin0 (op : BinOp) (t : TypeId) (x y : AV) (H : List AB) (K : Kont) : Tree :=
 match op with
 | .eql => match eqTop P t x y with
  | some r => aBool r H K
  | none => .fail 2
 | .neq => match eqTop P t x y with
  | some r => aBool (!r) H K
  | none => .fail 2
 | op => match x, y with
  | .one (.c (.int k a)), .one (.c (.int k' b)) => match op with
   | .shl => .need (0 ≤ b) (arith k (a * 2 ^ (min b.toNat k.bits)) H K)
   | .shr => .need (0 ≤ b) (arith k (a.fdiv (2 ^ (min b.toNat k.bits))) H K)
   | op => if k = k' then (match op with
    | .add => arith k (a + b) H K
    | .sub => arith k (a - b) H K
    | .mul => arith k (a * b) H K
    | .quo => .need (b ≠ 0) (arith k (a.tdiv b) H K)
    | .rem => .need (b ≠ 0) (arith k (a.tmod b) H K)
    | .lss => aBool (decide (a < b)) H K
    | .leq => aBool (decide (a ≤ b)) H K
    | .gtr => aBool (decide (b < a)) H K
    | .geq => aBool (decide (b ≤ a)) H K
    | .and => K (.c (.int k (bitsF .and k a b))) H [] []
    | .or => K (.c (.int k (bitsF .or k a b))) H [] []
    | .xor => K (.c (.int k (bitsF .xor k a b))) H [] []
    | .andNot => K (.c (.int k (bitsF .andNot k a b))) H [] []
    | _ => .fail 1) else .fail 6
  | .one (.c (.str a)), .one (.c (.str b)) => match op with
   | .add => .need (a.size + b.size ≤ 9223372036854775807) (K (.c (.str (a ++ b))) H [] [])
   | _ => .fail 7
  | _, _ => .fail 3
def aBin (op : BinOp) (t : TypeId) (x y : AV) (H : List AB) (K : Kont) : Tree := match fltsOf x y with
 | some (a, b) => aFlt op a b H K
 | none => aBin0 P op t x y H K
def aUn (op : UnOp) (x : AV) (H : List AB) (K : Kont) : Tree :=
 match op, x with
 | .not, .one (.c (.bool b)) => aBool (!b) H K
 | .not, .one (.c (.lit b)) => K (.c (.lit (!b))) H [] []
 | .neg, .one (.c (.int k n)) => arith k (0 - n) H K
 | .neg, .one (.c (.flt n)) => K (.c (.flt (Op.negFloat .f64 n))) H [] []
 | .xor, .one (.c (.int k n)) => K (.c (.int k (bitsF .xor k (if k.signed then -1 else k.max) n))) H [] []
 | _, _ => .fail 4

/-- Cells as a value of type t. -/
def asT (t : TypeId) (cs : List CV) : Option AV :=
 match isAggB P t, cs with
 | some true, cs => some (.agg cs)
 | some false, [v] => some (.c v)
 | _, _ => none
def fieldOf (t : TypeId) (f : Nat) : Option Field := match P.underlying t with
 | some (.struct fs) => fs.toList[f]?
 | _ => none
def zeroCs (t : TypeId) : Option (List CV) := match (P.info? t).bind (·.zero) with
 | some v => constCs v.cells.toList
 | none => none
def decMany (t : Ty) : Nat → List CV → Option (List t.El)
 | 0, [] => some []
 | 0, _ => none
 | n + 1, cs => match t.dec cs with
  | some (x, r) => match decMany t n r with
   | some xs => some (x :: xs)
   | none => none
  | none => none
/-- The cells of elements in a row. -/
def encFrom (t : Ty) (xs : List t.El) (i : Nat) : Nat → List CV
 | 0 => []
 | k + 1 => t.enc (xs.getD i t.dflt) ++ encFrom t xs (i + 1) k
/-- The cells of a block from (i, j) on. -/
def readB (b : Option AB) (s i j n : Nat) (H : List AB) (K : List CV → Tree) : Tree :=
 match b with
 | some (.cells _ cs) => if i * s + j + n ≤ cs.length then K ((cs.drop (i * s + j)).take n) else .fail 10
 | some (.vec _ t xs) => if s = t.sz ∧ j + n ≤ s then .need (i < xs.length) (K (((t.enc (xs.getD i t.dflt)).drop j).take n)) else if s = 0 ∧ i = 0 ∧ j = 0 ∧ n / t.sz * t.sz = n then .need (n / t.sz ≤ xs.length) (K (encFrom t xs 0 (n / t.sz))) else .fail 11
 | some (.ovec _ t xs) => if s = t.sz ∧ j + n ≤ s then .need (i < xs.length) (K (((t.enc (xs.getD i t.dflt)).drop j).take n)) else .fail 13
 | _ => .fail 12
def aLoad (t : TypeId) (p : AV) (H : List AB) (K : Kont) : Tree :=
 match szT P t with
 | none => .fail 20
 | some n => match p with
  | .one (.c (.ptr b s i j)) => readB H[b]? s i j n H fun cs => match asT P t cs with
   | some v => K v H [b] []
   | none => .fail 21
  | .one (.c (.pro e xs i j)) => if j + n ≤ e.sz then .need (i < xs.length) (match asT P t (((e.enc (xs.getD i e.dflt)).drop j).take n) with
   | some v => K v H [] []
   | none => .fail 22) else .fail 23
  | _ => .fail 24
def putAt (cs : List CV) (o : Nat) (new : List CV) : List CV := cs.take o ++ new ++ cs.drop (o + new.length)
def aStore (t : TypeId) (p v : AV) (H : List AB) (K : Kont) : Tree :=
 match v with
 | .tup _ | .junk => .fail 30
 | .one a =>
  match szT P t with
  | none => .fail 31
  | some n => if a.cells.length ≠ n then .fail 32 else match p with
   | .one (.c (.ptr b s i j)) => match H[b]? with
    | some (.cells e cs) => if i * s + j + n ≤ cs.length then K .junk (H.set b (.cells e (putAt cs (i * s + j) a.cells))) [] [b] else .fail 33
    | some (.vec e u xs) => if s = u.sz ∧ j + n ≤ s then .need (i < xs.length) (match u.dec (putAt (u.enc (xs.getD i u.dflt)) j a.cells) with
     | some (x, []) => K .junk (H.set b (.vec e u (xs.set i x))) [] [b]
     | _ => .fail 34) else if s = 0 ∧ i = 0 ∧ j = 0 ∧ n / u.sz * u.sz = n then (match decMany u (n / u.sz) a.cells with
      | some ys => .need (xs.length = n / u.sz) (K .junk (H.set b (.vec e u ys)) [] [b])
      | none => .fail 38) else .fail 35
    | some (.ovec e u xs) => if s = u.sz ∧ j + n ≤ s then .need (i < xs.length) (match u.dec (putAt (u.enc (xs.getD i u.dflt)) j a.cells) with
     | some (x, []) => K .junk (H.set b (.ovec e u (xs.set i x))) [] [b]
     | _ => .fail 39) else .fail 35
    | _ => .fail 36
   | _ => .fail 37
def aIndexAddr (t : TypeId) (x i : AV) (H : List AB) (K : Kont) : Tree :=
 match i with
 | .one (.c (.int _ n)) => match P.underlying t, x with
  | some (.slice e), .one (.c (.ro d xs)) => if szT P e = some d.sz then .need (0 ≤ n ∧ n < xs.length) (K (.c (.pro d xs n.toNat 0)) H [] []) else .fail 40
  | some (.slice e), .one (.c (.sl b s o len)) => if szT P e = some s then .need (0 ≤ n ∧ n < len) (K (.c (.ptr b s (o + n.toNat) 0)) H [] []) else .fail 41
  | some (.slice e), .one (.c (.pre b s len)) => if szT P e = some s then .need (0 ≤ n ∧ n < len) (K (.c (.ptr b s n.toNat 0)) H [] []) else .fail 46
  | some (.slice e), .one (.c (.osl b s len)) => if szT P e = some s then .need (0 ≤ n ∧ n < len) (K (.c (.ptr b s n.toNat 0)) H [] []) else .fail 48
  | some (.array len e), .one (.c (.ptr b s o j)) => match szT P e with
   | some s' => if o = 0 ∧ j = 0 ∧ 1 < len then .need (0 ≤ n ∧ n < len) (K (.c (.ptr b s' n.toNat 0)) H [] []) else .fail 42
   | none => .fail 43
  | some (.array len e), .one (.c (.pro d xs o j)) => if szT P e = some d.sz ∧ o = 0 ∧ j = 0 ∧ 1 < len then .need (0 ≤ n ∧ n < len ∧ len ≤ xs.length) (K (.c (.pro d xs n.toNat 0)) H [] []) else .fail 47
  | _, _ => .fail 44
 | _ => .fail 45
def aFieldAddr (t : TypeId) (x : AV) (f : Nat) (H : List AB) (K : Kont) : Tree :=
 match fieldOf P t f with
 | some fd => match szT P fd.type with
  | some (_ + 1) => match x with
   | .one (.c (.ptr b s i j)) => K (.c (.ptr b s i (j + fd.offset))) H [] []
   | .one (.c (.pro e xs i j)) => K (.c (.pro e xs i (j + fd.offset))) H [] []
   | _ => .fail 50
  | _ => .fail 55
 | none => .fail 56
def aField (t : TypeId) (x : AV) (f : Nat) (H : List AB) (K : Kont) : Tree :=
 match fieldOf P t f, x with
 | some fd, .one (.agg cs) => match partC P fd.type cs fd.offset with
  | some a => K (.one a) H [] []
  | none => .fail 51
 | _, _ => .fail 54
def fillC (place : Nat → Option (Nat × Nat)) (cells : List CV) : List (Nat × AV) → Option (List CV)
 | [] => some cells
 | (i, .one a) :: rest => match place i with
  | none => none
  | some (off, size) => if a.cells.length ≠ size ∨ off + size > cells.length then none else fillC place (putAt cells off a.cells) rest
 | _ => none
def aBuild (t : TypeId) (parts : List (Nat × AV)) (H : List AB) (K : Kont) : Tree :=
 match zeroCs P t with
 | none => .fail 60
 | some z => match P.underlying t with
  | some (.struct fs) => match fs.toList.mapM (fun f => (P.info? f.type).map fun i => (f.offset, i.size)) with
   | some pl => match fillC (fun i => pl[i]?) z parts with
    | some cs => K (.agg cs) H [] []
    | none => .fail 61
   | none => .fail 69
  | some (.array _ e) => match szT P e with
   | some n => match fillC (fun i => some (i * n, n)) z parts with
    | some cs => K (.agg cs) H [] []
    | none => .fail 62
   | none => .fail 63
  | _ => .fail 64
def repC (z : List CV) : Nat → List CV
 | 0 => []
 | n + 1 => z ++ repC z n
/-- An array's code: as many as it has. -/
def repT : Option Ty → Nat → Option Ty
 | some t, 1 => some t
 | some t, n + 2 => (repT (some t) (n + 1)).map (.pair t)
 | _, _ => none
/-- A type's code. -/
def tyOf : Nat → TypeId → Option Ty
 | 0, _ => none
 | n + 1, t => match P.underlying t with
  | some (.int k) => some (.int k)
  | some .bool => some .bool
  | some .string => some .str
  | some (.slice e) => (tyOf n e).map .slice
  | some (.struct fs) => go (tyOf n) fs.toList
  | some (.array k e) => repT (tyOf n e) k
  | _ => none
where go (rec : TypeId → Option Ty) : List Field → Option Ty
 | [] => none
 | [f] => rec f.type
 | f :: fs => match rec f.type, go rec fs with
  | some a, some b => some (.pair a b)
  | _, _ => none
/-- A row of elements: typed, where it can be. -/
def rowOf (id e : TypeId) (n len : Nat) (cs : List CV) : AB := match tyOf P 8 e with
 | some t => if t.sz = n then (match decMany t len cs with
  | some xs => .vec id t xs
  | none => .cells id cs) else .cells id cs
 | none => .cells id cs
/-- Cells with nil slices, and no others. -/
def CV.nilS : CV → Bool
 | .nilsl => true
 | _ => false
def CV.noS : CV → Bool
 | .ro .. | .sl .. | .osl .. | .pre .. => false
 | _ => true
def rowOfN (id e : TypeId) (n len : Nat) (cs : List CV) : AB := if cs.any CV.nilS && cs.all CV.noS then .cells id cs else rowOf P id e n len cs
/-- A variable's block: an array's as a row. -/
def boxOf (t : TypeId) (cs : List CV) : AB := match P.underlying t with
 | some (.array len e) => match szT P e with
  | some n => if cs.length = len * n then rowOf P t e n len cs else .cells t cs
  | none => .cells t cs
 | _ => .cells t cs
def aBuildSlice (t : TypeId) (len : Nat) (parts : List (Nat × AV)) (H : List AB) (K : Kont) : Tree :=
 match P.underlying t with
 | some (.slice e) => match szT P e, zeroCs P e with
  | some n, some z => if z.length = n ∧ 0 < n ∧ len * n ≤ 16777216 then (match fillC (fun i => some (i * n, n)) (repC z len) parts with
   | some cs => K (.c (.sl H.length n 0 len)) (H ++ [rowOfN P e e n len cs]) [] [H.length]
   | none => .fail 65) else .fail 66
  | _, _ => .fail 67
 | _ => .fail 68
def aIndex (t : TypeId) (x i : AV) (H : List AB) (K : Kont) : Tree :=
 match i with
 | .one (.c (.int _ n)) => match P.underlying t, x with
  | some .string, .one (.c (.str s)) => .need (0 ≤ n ∧ n < s.size) (K (.c (.int .u8 (s[n.toNat]!).toNat)) H [] [])
  | some (.array len e), .one (.agg cs) => match szT P e, isAggB P e with
   | some 1, some false => if cs.length = len then .need (0 ≤ n ∧ n < len) (K (.c (cs.getD n.toNat .junk)) H [] []) else .fail 70
   | _, _ => .fail 71
  | _, _ => .fail 72
 | _ => .fail 73
def aConv (src dst : TypeId) (x : AV) (H : List AB) (K : Kont) : Tree :=
 match P.underlying src with
 | none => .fail 78
 | some ds => match P.underlying dst, x with
  | some (.int k), .one (.c (.int k' n)) => if k'.min ≥ k.min ∧ k'.max ≤ k.max then K (.c (.int k n)) H [] [] else K (.c (.int k (k.wrap n))) H [] []
  | some .string, .one (.c (.str s)) => match ds with
   | .string => K (.c (.str s)) H [] []
   | _ => .fail 79
  | _, _ => .fail 75
def aLen (t : TypeId) (x : AV) (H : List AB) (K : Kont) : Tree :=
 match P.underlying t, x with
 | some .string, .one (.c (.str s)) => K (.c (.int .i64 s.size)) H [] []
 | some (.slice _), .one (.c (.ro _ xs)) => K (.c (.int .i64 xs.length)) H [] []
 | some (.slice _), .one (.c (.sl _ _ _ n)) => K (.c (.int .i64 n)) H [] []
 | some (.slice _), .one (.c (.pre _ _ n)) => K (.c (.int .i64 n)) H [] []
 | some (.slice _), .one (.c (.osl _ _ n)) => K (.c (.int .i64 n)) H [] []
 | some (.slice _), .one (.c .nilsl) => K (.c (.int .i64 0)) H [] []
 | some (.array n _), _ => if n < 4611686018427387904 then K (.c (.int .i64 n)) H [] [] else .fail 76
 | _, _ => .fail 77
def fnOf : CV → Option (Nat × List AV)
 | .fn0 f => some (f, [])
 | .fnc g c => match fnOf g with
  | some (f, l) => some (f, l ++ [.c c])
  | none => none
 | _ => none
def aCaps (g : CV) : List AV → Option CV
 | [] => some g
 | .one (.c v) :: r => aCaps (.fnc g v) r
 | _ => none

def srcOf (H : List AB) (x : AV) (K : (t : Ty) → List t.El → List Nat → Tree) (N : Tree) : Tree :=
 match x with
 | .one (.c .nilsl) => N
 | .one (.c (.ro t ys)) => K t ys []
 | .one (.c (.sl b s i n)) => match H[b]? with
  | some (.vec _ t ys) => if s = t.sz then .need (i = 0 ∧ n = ys.length) (K t ys [b]) else .fail 140
  | _ => .fail 141
 | .one (.c (.pre b s n)) => match H[b]? with
  | some (.vec _ t ys) => if s = t.sz then .need (n ≤ ys.length) (K t (ys.take n) [b]) else .fail 142
  | _ => .fail 143
 | .one (.c (.osl b s n)) => match H[b]? with
  | some (.ovec _ t ys) => if s = t.sz then .need (n = ys.length) (K t ys [b]) else .fail 138
  | _ => .fail 139
 | _ => .fail 144
def onEmp {α : Type} (x : AV) (ys : List α) (A B : Tree) : Tree := match x with
 | .one (.c (.sl _ _ _ (_ + 1))) => .need (ys.isEmpty = false) B
 | _ => .ite ys.isEmpty A B
def aAppend (t : TypeId) (s x : AV) (H : List AB) (K : Kont) : Tree :=
 match P.underlying t with
 | some (.slice e) => match P.info? e with
  | some ie => match ie.zero with
   | some z => if z.cells.size = ie.size ∧ 0 < ie.size ∧ 0 < ie.bytes then (match s with
    | .one (.c .nilsl) => srcOf H x (fun u ys rd => if u.sz = ie.size then .need (ys.length * ie.bytes ≤ 140737488355328) (onEmp x ys (K (.c .nilsl) H rd []) (K (.c (.sl H.length u.sz 0 ys.length)) (H ++ [.vec e u ys]) rd [H.length])) else .fail 145) (K (.c .nilsl) H [] [])
    | .one (.c (.sl b sz i n)) => match H[b]? with
     | some (.vec e' u xs) => if sz = u.sz ∧ u.sz = ie.size ∧ e' = e then .need (i = 0 ∧ n = xs.length) (srcOf H x (fun u' ys rd => if h : u' = u then .need ((xs.length + ys.length) * ie.bytes ≤ 140737488355328) (K (.c (.sl H.length sz 0 (xs.length + ys.length))) (H.set b .dead ++ [.vec e u (xs ++ h ▸ ys)]) rd [b, H.length]) else .fail 146) (K (.c (.sl b sz i n)) H [] [])) else .fail 147
     | _ => .fail 148
    | .one (.c (.osl b sz n)) => match H[b]? with
     | some (.ovec e' u xs) => if sz = u.sz ∧ u.sz = ie.size ∧ e' = e then .need (n = xs.length) (srcOf H x (fun u' ys rd => if h : u' = u then .need ((xs.length + ys.length) * ie.bytes ≤ 140737488355328) (K (.c (.osl H.length sz (xs ++ h ▸ ys).length)) (H.set b .dead ++ [.ovec e u (xs ++ h ▸ ys)]) rd [b, H.length]) else .fail 136) (K (.c (.osl b sz n)) H [] [])) else .fail 137
     | _ => .fail 135
    | _ => .fail 149) else .fail 150
   | none => .fail 151
  | none => .fail 152
 | _ => .fail 153
def aMake (t : TypeId) (l c : AV) (H : List AB) (K : Kont) : Tree :=
 match P.underlying t, l, c with
 | some (.slice e), .one (.c (.int _ ln)), .one (.c (.int _ cn)) => match P.info? e, zeroCs P e, tyOf P 8 e with
  | some ie, some z, some u => match decMany u 1 z with
   | some [z0] => if u.sz = ie.size ∧ z.length = ie.size then .need (0 ≤ ln ∧ ln ≤ cn ∧ cn ≤ 140737488355328 ∧ (ie.bytes : Int) * cn ≤ 140737488355328) (K (.c (.sl H.length u.sz 0 ln.toNat)) (H ++ [.vec e u (List.replicate ln.toNat z0)]) [] [H.length]) else .fail 154
   | _ => .fail 155
  | _, _, _ => .fail 156
 | _, _, _ => .fail 157
def optV (env : List AV) : Option Operand → Option (Option Int)
 | none => some none
 | some x => match ev env x with
  | .one (.c (.int _ n)) => some (some n)
  | _ => none
def aSlice (t : TypeId) (x : AV) (lo hi : Option Int) (H : List AB) (K : Kont) : Tree :=
 match P.underlying t, x with
 | some .string, .one (.c (.str s)) => match lo, hi with
  | some l, some h => .need (0 ≤ l ∧ l ≤ h ∧ h ≤ s.size) (K (.c (.str (s.extract l.toNat h.toNat))) H [] [])
  | some l, none => .need (0 ≤ l ∧ l ≤ s.size) (K (.c (.str (s.extract l.toNat s.size))) H [] [])
  | none, some h => .need (0 ≤ h ∧ h ≤ s.size) (K (.c (.str (s.extract 0 h.toNat))) H [] [])
  | none, none => K (.c (.str s)) H [] []
 | some (.slice e), .one (.c (.ro u xs)) => if szT P e = some u.sz then (match lo, hi with
  | some l, some h => .need (0 ≤ l ∧ l ≤ h ∧ h ≤ xs.length) (K (.c (.ro u ((xs.take h.toNat).drop l.toNat))) H [] [])
  | some l, none => .need (0 ≤ l ∧ l ≤ xs.length) (K (.c (.ro u (xs.drop l.toNat))) H [] [])
  | none, some h => .need (0 ≤ h ∧ h ≤ xs.length) (K (.c (.ro u (xs.take h.toNat))) H [] [])
  | none, none => K (.c (.ro u xs)) H [] []) else .fail 160
 | some (.slice e), .one (.c (.sl b s 0 n)) => if szT P e = some s then (match lo, hi with
  | none, some h => .need (0 ≤ h ∧ h ≤ n) (K (.c (.pre b s h.toNat)) H [] [])
  | none, none => K (.c (.sl b s 0 n)) H [] []
  | _, _ => .fail 161) else .fail 167
 | some (.slice e), .one (.c (.pre b s n)) => if szT P e = some s then (match lo, hi with
  | none, some h => .need (0 ≤ h ∧ h ≤ n) (K (.c (.pre b s h.toNat)) H [] [])
  | _, _ => .fail 162) else .fail 168
 | some (.array len e), .one (.c (.ptr b _ 0 0)) => match szT P e, H[b]? with
  | some n, some (.vec _ u xs) => if n = u.sz ∧ len ≤ 4611686018427387904 then (match lo, hi with
   | none, some h => .need (0 ≤ h ∧ h ≤ len ∧ len ≤ xs.length) (K (.c (.pre b n h.toNat)) H [b] [])
   | none, none => .need (len ≤ xs.length) (K (.c (.pre b n len)) H [b] [])
   | _, _ => .fail 163) else .fail 164
  | some n, some (.cells _ cs) => if 0 < n ∧ len * n ≤ cs.length ∧ len ≤ 4611686018427387904 then (match lo, hi with
   | none, some h => .need (0 ≤ h ∧ h ≤ len) (K (.c (.pre b n h.toNat)) H [b] [])
   | none, none => K (.c (.pre b n len)) H [b] []
   | _, _ => .fail 158) else .fail 159
  | _, _ => .fail 165
 | _, _ => .fail 166
def CV.closed : CV → Bool
 | .sl .. | .osl .. | .pre .. | .ptr .. | .map _ => false
 | .fnc g c => g.closed && c.closed
 | _ => true
def A1.closed (a : A1) : Bool := a.cells.all CV.closed
def AV.closed : AV → Bool
 | .junk => false
 | .one a => a.closed
 | .tup l => l.all A1.closed
/-- Nothing that is read. -/
def CV.flat : CV → Bool
 | .sl .. | .osl .. | .pre .. | .ptr .. | .map _ | .ro .. | .pro .. => false
 | .fnc g c => g.flat && c.flat
 | _ => true
def AV.flat : AV → Bool
 | .junk => false
 | .one a => a.cells.all CV.flat
 | .tup l => l.all fun a => a.cells.all CV.flat
/-- Slices of the call's own, handed on to be read. -/
def frzC (H : List AB) (c : CV) (K : CV → List Nat → Tree) : Tree :=
 match c with
 | .sl b s i n => match H[b]? with
  | some (.vec e t xs) => if s = t.sz then .need (i = 0 ∧ n = xs.length) (K (.ro t xs) [b]) else .fail 93
  | _ => K (.sl b s i n) []
 | .pre b s n => match H[b]? with
  | some (.vec e t xs) => if s = t.sz then .need (n ≤ xs.length) (K (.ro t (xs.take n)) [b]) else .fail 94
  | _ => K (.pre b s n) []
 | .osl b s n => match H[b]? with
  | some (.ovec e t xs) => if s = t.sz then .need (n = xs.length) (K (.ro t xs) [b]) else .fail 95
  | some (.nest e t xs ko hi hs) => if s = t.ty.sz ∧ hs.isEmpty = true then .need (n = xs.length) (K (.ro t.ty xs) [b]) else .fail 96
  | _ => K (.osl b s n) []
 | c => K c []
def frzCs (H : List AB) : List CV → (List CV → List Nat → Tree) → Tree
 | [], K => K [] []
 | c :: r, K => frzC H c fun c' l => frzCs H r fun r' l' => K (c' :: r') (l ++ l')
def frz1 (H : List AB) (a : A1) (K : A1 → List Nat → Tree) : Tree :=
 match a with
 | .c c => frzC H c fun c' l => K (.c c') l
 | .agg cs => frzCs H cs fun cs' l => K (.agg cs') l
def frz1s (H : List AB) : List A1 → (List A1 → List Nat → Tree) → Tree
 | [], K => K [] []
 | c :: r, K => frz1 H c fun c' l => frz1s H r fun r' l' => K (c' :: r') (l ++ l')
def frzA (H : List AB) (a : AV) (K : AV → List Nat → Tree) : Tree :=
 match a with
 | .one a => frz1 H a fun a' l => K (.one a') l
 | .tup l => frz1s H l fun l' r => K (.tup l') r
 | .junk => K .junk []
def frzAs (H : List AB) : List AV → (List AV → List Nat → Tree) → Tree
 | [], K => K [] []
 | c :: r, K => frzA H c fun c' l => frzAs H r fun r' l' => K (c' :: r') (l ++ l')
/-- Blocks that are given up. -/
def killL : List Nat → List AB → List AB
 | [], H => H
 | b :: r, H => killL r (H.set b .dead)
def frzTs (H : List AB) : List Nat → List AV → (List AV → List Nat → Tree) → Tree
 | [], env, K => K env []
 | t :: r, env, K => frzA H (env.getD t .junk) fun v l => frzTs H r (env.set t v) fun env' l' => K env' (l ++ l')
def tmpsOf : List Operand → List Nat
 | [] => []
 | .tmp t :: r => t :: tmpsOf r
 | _ :: r => tmpsOf r
def vecAt (H : List AB) : AV → Bool
 | .one (.c (.ptr b _ _ _)) => match H[b]? with
  | some (.vec ..) => true
  | some (.ovec ..) => true
  | _ => false
 | _ => false
def aCall (f : Nat) (args : List AV) (H : List AB) (K : Kont) : Tree :=
 frzAs H args fun args' l => if args'.all AV.closed then (match oc.pure f args' with
  | some r => if l.isEmpty || r.flat then .call f args' (!l.isEmpty) r (K r H l []) else .call f args' false r (K r (killL l H) l l)
  | none => match oc.heap f args H with
   | some (r, H', wr) => .callH f args H r H' wr (K r H' (List.range H.length) wr)
   | none => .fail 130) else (match oc.heap f args H with
  | some (r, H', wr) => .callH f args H r H' wr (K r H' (List.range H.length) wr)
  | none => .fail 131)

/-! rows of rows of one's own -/
def isNest (H : List AB) : AV → Bool
 | .one (.c (.ptr b _ _ _)) => match H[b]? with
  | some (.nest ..) => true
  | _ => false
 | .one (.c (.osl b _ _)) => match H[b]? with
  | some (.nest ..) => true
  | _ => false
 | _ => false
/-- An element's cells; a row of one's own is not told. -/
def cellsN (s : Sk) (x : s.ty.El) : Nat → Nat → List CV
 | _, 0 => []
 | j, n + 1 => (match s.slot x j with
  | .cv c => c
  | _ => .junk) :: cellsN s x (j + 1) n
/-- A row of one's own by a name of its own. -/
def subOf (e : TypeId) (s : Sk) (ys : List s.ty.El) : AB := if s.flat then .ovec e s.ty ys else .nest e s ys none 0 []
def aLoadN (t : TypeId) (p : AV) (H : List AB) (K : Kont) : Tree := match szT P t, p with
 | some n, .one (.c (.ptr b sz i j)) => match H[b]? with
  | some (.nest e s xs ko hi hs) => if sz = s.ty.sz ∧ j + n ≤ sz then (match ko with
   | some (k, o) => if o = 0 ∧ hs.isEmpty = true then .need (i < xs.length ∧ k ≤ i) (match asT P t (((s.ty.enc (xs.getD i s.ty.dflt)).drop j).take n) with
    | some v => K v H [b] []
    | none => .fail 200) else .fail 201
   | none => if n = 1 then (match s.slot (xs.getD i s.ty.dflt) j with
    | .cv c => .need (i < xs.length) (match asT P t [c] with
     | some v => K v H [b] []
     | none => .fail 202)
    | .sl e' s' ys => match holeAt hs j with
     | some c => .need (i < xs.length ∧ i = hi) (match asT P t [c] with
      | some v => K v H [b] []
      | none => .fail 203)
     | none => if isAggB P t = some false then .need (i < xs.length ∧ (hs.isEmpty = true ∨ i = hi)) (K (.c (.osl H.length s'.ty.sz ys.length)) (H.set b (.nest e s xs none i (holePut hs j (.osl H.length s'.ty.sz ys.length))) ++ [subOf e' s' ys]) [b] [b, H.length]) else .fail 204
    | .no => .fail 205) else .need (i < xs.length) (match asT P t (cellsN s (xs.getD i s.ty.dflt) j n) with
    | some v => K v H [b] []
    | none => .fail 206)) else .fail 207
  | _ => .fail 208
 | _, _ => .fail 209
def putN (s : Sk) : s.ty.El → List (Nat × CV) → Nat → List CV → Bool → Option (s.ty.El × List (Nat × CV) × Bool)
 | x, hs, _, [], ch => some (x, hs, ch)
 | x, hs, j, c :: r, ch => match s.slot x j with
  | .cv _ => (match s.set1 x j c with
   | some y => putN s y hs (j + 1) r ch
   | none => none)
  | .sl .. => putN s x (holePut hs j c) (j + 1) r true
  | .no => none
def aStoreN (t : TypeId) (p v : AV) (H : List AB) (K : Kont) : Tree := match szT P t, p, v with
 | some n, .one (.c (.ptr b sz i j)), .one a => match H[b]? with
  | some (.nest e s xs ko hi hs) => if a.cells.length = n ∧ sz = s.ty.sz ∧ j + n ≤ sz then (match putN s (xs.getD i s.ty.dflt) hs j a.cells false with
   | some (y, hs', true) => .need (i < xs.length ∧ (hs.isEmpty = true ∨ i = hi)) (K .junk (H.set b (.nest e s (xs.set i y) ko i hs')) [] [b])
   | some (y, hs', false) => .need (i < xs.length) (K .junk (H.set b (.nest e s (xs.set i y) ko hi hs)) [] [b])
   | none => .fail 210) else .fail 211
  | _ => .fail 212
 | _, _, _ => .fail 213
/-- All its rows are nil. -/
def Sk.nilCs : Sk → List CV → Bool
 | .pair a b, cs => a.nilCs (cs.take a.ty.sz) && b.nilCs (cs.drop a.ty.sz)
 | .slice _ _, c :: _ => c.nilS
 | .slice _ _, [] => false
 | _, _ => true
def aAppN (t : TypeId) (s x : AV) (H : List AB) (K : Kont) : Tree :=
 match P.underlying t with
 | some (.slice e) => match P.info? e with
  | some ie => match ie.zero with
   | some z => if z.cells.size = ie.size ∧ 0 < ie.size ∧ 0 < ie.bytes then (match s with
    | .one (.c (.osl b sz n)) => match H[b]? with
     | some (.nest e' u xs none hi hs) => if sz = u.ty.sz ∧ u.ty.sz = ie.size ∧ e' = e ∧ hs.isEmpty = true then (match x with
      | .one (.c (.sl b' sz' 0 1)) => match H[b']? with
       | some (.cells _ cs) => if sz' = sz ∧ cs.length = sz ∧ u.nilCs cs = true then (match u.ty.dec cs with
        | some (y, []) => .need (n = xs.length ∧ (xs.length + 1) * ie.bytes ≤ 140737488355328) (K (.c (.osl H.length sz (xs ++ [y]).length)) (H.set b .dead ++ [.nest e u (xs ++ [y]) none 0 []]) [b'] [b, H.length])
        | _ => .fail 214) else .fail 215
       | _ => .fail 222
      | _ => .fail 223) else .fail 224
     | _ => .fail 216
    | _ => .fail 217) else .fail 218
   | none => .fail 219
  | none => .fail 220
 | _ => .fail 221
def aMakeMap (t : TypeId) (H : List AB) (K : Kont) : Tree := match P.underlying t with
 | some (.map k e) => match tyOf P 8 k, tyOf P 8 e with
  | some kt, some et => if kt.plain && et.plain then .need (P = Tryz.prog) (K (.c (.map H.length)) (H ++ [.map k kt et 0 (fun _ => none)]) [] [H.length]) else .fail 180
  | _, _ => .fail 181
 | _ => .fail 182
def aLookup (t : TypeId) (m key : AV) (ok : Bool) (H : List AB) (K : Kont) : Tree := match P.underlying t, m with
 | some (.map k e), .one (.c (.map b)) => match H[b]?, (P.info? e).bind (·.zero) with
  | some (.map k' kt et n f), some zv => if k' = k ∧ kt.plain = true ∧ et.plain = true then (match decA kt key, decA et (constV zv) with
   | some x, some z => .need (P = Tryz.prog ∧ MapLaw P k kt) (K (if ok then .tup [encA et ((f x).getD z), .c (.bool (f x).isSome)] else .one (encA et ((f x).getD z))) H [b] [])
   | _, _ => .fail 183) else .fail 184
  | _, _ => .fail 185
 | _, _ => .fail 186
def aMapPut (t : TypeId) (m key v : AV) (H : List AB) (K : Kont) : Tree := match P.underlying t, m with
 | some (.map k e), .one (.c (.map b)) => match H[b]? with
  | some (.map k' kt et n f) => if k' = k ∧ kt.plain = true ∧ et.plain = true then (match decA kt key, decA et v with
   | some x, some y => .need (P = Tryz.prog ∧ MapLaw P k kt ∧ n < 140737488355328) (K .junk (H.set b (.map k kt et (n + 1) (updM f x y))) [] [b])
   | _, _ => .fail 187) else .fail 188
  | _ => .fail 189
 | _, _ => .fail 190
def aOp (o : Oper) (env : List AV) (H : List AB) (K : Kont) : Tree :=
 match o.op with
 | .move x | .assign x => K (ev env x) H [] []
 | .pick c a b => onB (ev env c) (K (ev env a) H [] []) (K (ev env b) H [] [])
 | .alloc t => match zeroCs P t with
  | some cs => K (.c (.ptr H.length 0 0 0)) (H ++ [boxOf P t cs]) [] [H.length]
  | none => .fail 81
 | .box t x => match ev env x with
  | .one a => K (.c (.ptr H.length 0 0 0)) (H ++ [boxOf P t a.cells]) [] [H.length]
  | _ => .fail 82
 | .build t parts => aBuild P t (parts.toList.map fun p => (p.1, ev env p.2)) H K
 | .buildSlice t len parts => frzTs H (tmpsOf (parts.toList.map (·.2))) env fun env' l => aBuildSlice P t len (parts.toList.map fun p => (p.1, ev env' p.2)) (killL l H) fun v H' rd wr => K v H' (l ++ rd) (l ++ wr)
 | .load t a => if isNest H (ev env a) then aLoadN P t (ev env a) H K else aLoad P t (ev env a) H K
 | .store t a x => if vecAt H (ev env a) then frzTs H (tmpsOf [x]) env fun env' l => aStore P t (ev env' a) (ev env' x) (killL l H) fun v H' rd wr => K v H' (l ++ rd) (l ++ wr) else if isNest H (ev env a) then aStoreN P t (ev env a) (ev env x) H K else aStore P t (ev env a) (ev env x) H K
 | .nilCheck x => match ev env x with
  | .one (.c (.ptr b s i j)) => K (.c (.ptr b s i j)) H [] []
  | .one (.c (.pro e xs i j)) => K (.c (.pro e xs i j)) H [] []
  | .one (.c (.fn0 f)) => K (.c (.fn0 f)) H [] []
  | .one (.c (.fnc g c)) => K (.c (.fnc g c)) H [] []
  | _ => .fail 83
 | .binOp op t x y _ => aBin P op t (ev env x) (ev env y) H K
 | .unOp op _ x => aUn op (ev env x) H K
 | .convert s d x => aConv P s d (ev env x) H K
 | .makeFunc (.func f) first caps => if first.size = 0 then (match aCaps (.fn0 f) (caps.toList.map (ev env)) with
  | some g => K (.c g) H [] []
  | none => .fail 84) else .fail 85
 | .makeSlice t l c => aMake P t (ev env l) (ev env c) H K
 | .makeMap t r => match r with
  | none => aMakeMap P t H K
  | some _ => .fail 191
 | .lookup t m x ok => aLookup P t (ev env m) (ev env x) ok H K
 | .mapUpdate t m x v => aMapPut P t (ev env m) (ev env x) (ev env v) H K
 | .slice t x lo hi mx => match mx with
  | none => match optV env lo, optV env hi with
   | some l, some h => aSlice P t (ev env x) l h H K
   | _, _ => .fail 176
  | some _ => .fail 177
 | .fieldAddr t x f => aFieldAddr P t (ev env x) f H K
 | .field t x f => aField P t (ev env x) f H K
 | .indexAddr t x i => aIndexAddr P t (ev env x) (ev env i) H K
 | .index t x i => aIndex P t (ev env x) (ev env i) H K
 | .extract x i => match ev env x with
  | .tup l => match l[i]? with
   | some a => K (.one a) H [] []
   | none => .fail 86
  | _ => .fail 87
 | .call c => match c.callee with
  | .value f => match ev env f with
   | .one (.c g) => match fnOf g with
    | some (n, caps) => aCall oc n ((c.args.toList.map (ev env)) ++ caps) H K
    | none => .fail 88
   | _ => .fail 89
  | .builtin .len => match c.argTypes.toList, c.args.toList with
   | [t], [x] => aLen P t (ev env x) H K
   | _, _ => .fail 90
  | .builtin .append => match c.argTypes.toList, c.args.toList with
   | [t, t'], [x, y] => if t = t' then (if isNest H (ev env x) then aAppN P t (ev env x) (ev env y) H K else aAppend P t (ev env x) (ev env y) H K) else .fail 170
   | _, _ => .fail 171
  | .builtin .min => match c.args.toList with
   | [x, y] => match ev env x, ev env y with
    | .one (.c (.int k a)), .one (.c (.int _ b)) => .need (inR k b) (K (.c (.int k (if b < a then b else a))) H [] [])
    | _, _ => .fail 172
   | _ => .fail 173
  | .builtin .max => match c.args.toList with
   | [x, y] => match ev env x, ev env y with
    | .one (.c (.int k a)), .one (.c (.int _ b)) => .need (inR k b) (K (.c (.int k (if b > a then b else a))) H [] [])
    | _, _ => .fail 174
   | _ => .fail 175
  | _ => .fail 91
 | _ => .fail 92

def putE (env : List AV) (dst : Option Tmp) (v : AV) : List AV := match dst with
 | some d => env.set d v
 | none => env
/-- What an operation of a region did: what it read, what it wrote: temporaries (even), blocks (odd). -/
structure Rc where
 i : Nat
 rd : List Nat
 wr : List Nat
def meets (a b : List Nat) : Bool := a.any fun x => b.any fun y => Nat.beq x y
/-- All that is ahead of an operation, by the region's edges, as bits. -/
def ancOf (ms : List Nat) : List Edge → Nat
 | [] => 0
 | e :: r => if Region.binds .any e then (2 ^ e.on ||| ms.getD e.on 0) ||| ancOf ms r else ancOf ms r
/-- Nothing that is not ahead of it meets it. -/
def clear1 (anc : Nat) (rd wr : List Nat) : List Rc → Bool
 | [] => true
 | r :: rs => (anc.testBit r.i || !(meets r.wr (rd ++ wr) || meets wr r.rd)) && clear1 anc rd wr rs
def tmpOf : Operand → List Nat
 | .tmp t => [2 * t]
 | _ => []
def dstOf (ops : List Oper) (j : Nat) : Option Tmp := (ops[j]?).bind (·.dst)
def rdOf (ops : List Oper) (o : Oper) : List Nat := o.op.operands.toList.flatMap tmpOf ++ match o.guard with
 | some (j, _) => match dstOf ops j with
  | some d => [2 * d]
  | none => []
 | none => []
def wrOf (o : Oper) : List Nat := match o.dst with
 | some d => [2 * d]
 | none => []
def blkR (l : List Nat) : List Nat := l.map fun b => 2 * b + 1
def onGuard (ops : List Oper) (o : Oper) (env : List AV) (go skip : List AV → Tree) : Tree :=
 match o.guard with
 | none => go env
 | some (j, want) => match dstOf ops j with
  | some d => match env.getD d .junk with
   | .one (.c (.lit b)) => if b == want then go env else skip env
   | .one (.c (.bool b)) => if want then .ite b (go (env.set d (.c (.lit true)))) (skip (env.set d (.c (.lit false))))
    else .ite b (skip (env.set d (.c (.lit true)))) (go (env.set d (.c (.lit false))))
   | .tup [] => skip env
   | _ => .fail 100
  | none => .fail 101
/-- The operations of a region, in the text's order. -/
def aOps (draw : Bool) (ops : List Oper) : Nat → List Oper → List Nat → List Rc → List AV → List AB → (List AV → List AB → Tree) → Tree
 | _, [], _, _, env, H, K => K env H
 | i, o :: r, ms, rs, env, H, K =>
  let anc := ancOf ms o.after.toList
  let fin (env : List AV) (rc : Rc) (env' : List AV) (H' : List AB) : Tree :=
   if !draw || (clear1 anc rc.rd rc.wr rs && Nat.blt anc (2 ^ i)) then aOps draw ops (i + 1) r (ms ++ [anc]) (rc :: rs) env' H' K else .fail 102
  let go (env : List AV) : Tree := aOp P oc o env H fun v H' rd wr => fin env ⟨i, rdOf ops o ++ blkR rd, wrOf o ++ blkR wr⟩ (putE env o.dst v) H'
  let skip (env : List AV) : Tree := fin env ⟨i, rdOf ops o, wrOf o⟩ (putE env o.dst (.tup [])) H
  onGuard ops o env go skip
def aRes (fn : Func) (env : List AV) (H : List AB) : Tree :=
 let one (r : ResultVar) (K : Kont) : Tree := match r with
  | .tmp t => K (env.getD t .junk) H [] []
  | .cell a t => aLoad P t (env.getD a .junk) H K
 match fn.results.toList with
 | [r] => one r fun v _ _ _ => .ret v H
 | rs => go one rs []
where go (one : ResultVar → Kont → Tree) : List ResultVar → List A1 → Tree
 | [], acc => .ret (.tup acc.reverse) H
 | r :: rs, acc => one r fun v _ _ _ => match v with
  | .one a => go one rs (a :: acc)
  | _ => .fail 110

/-- The execution, to the head of the next loop or to the end. -/
def maskE : List Bool → List AV → List AV
 | true :: l, a :: r => a :: maskE l r
 | false :: l, _ :: r => .junk :: maskE l r
 | [], r => r
 | _ :: _, [] => []
/-- What is live at the places where the execution stops, and the regions ahead of which it stops. -/
structure LV where
 mask : List Bool
 cuts : List Nat
def memN (n : Nat) : List Nat → Bool
 | [] => false
 | a :: r => Nat.beq a n || memN n r
def aRun (fn : Func) (lv : LV) : Nat → List Item → List AV → List AB → Tree
 | 0, todo, env, H => .stop todo env H
 | n + 1, todo, env, H =>
  match todo with
  | [] => aRes P fn env H
  | .code c :: k => match c with
   | .ret => aRes P fn env H
   | .skip | .label _ => aRun fn lv n k env H
   | .seq a b => aRun fn lv n (.code a :: .code b :: k) env H
   | .cond c x y => onB (ev env c) (aRun fn lv n (.code x :: k) env H) (aRun fn lv n (.code y :: k) env H)
   | .block id b => aRun fn lv n (.code b :: .inBlock id :: k) env H
   | .scope b => aRun fn lv n (.code b :: .inScope b :: k) env H
   | .exit id => match exitTo id k with
    | some k' => aRun fn lv n k' env H
    | none => .fail 121
   | .loop b => .stop (.inLoop b :: k) (maskE lv.mask env) H
   | .region id ops draw => if memN id lv.cuts then .stop (.code (.region id ops draw) :: k) (maskE lv.mask env) H else aOps P oc draw ops.toList 0 ops.toList [] [] env H fun env' H' => aRun fn lv n k env' H'
   | .rangeFunc g ps x y => .stop (.code (.rangeFunc g ps x y) :: k) (maskE lv.mask env) H
   | _ => .fail 122
  | .inBlock _ :: k | .inScope _ :: k => aRun fn lv n k env H
  | .inLoop b :: k => .stop (.inLoop b :: k) (maskE lv.mask env) H
  | _ => .fail 123
/-- One round of the loop at which it stands. -/
def aRound (fn : Func) (lv : LV) (n : Nat) (todo : List Item) (env : List AV) (H : List AB) : Tree :=
 match todo with
 | .inLoop b :: k => aRun P oc fn lv n (.code b :: .inLoop b :: k) env H
 | .code (.region id ops draw) :: k => aOps P oc draw ops.toList 0 ops.toList [] [] env H fun env' H' => aRun P oc fn lv n k env' H'
 | _ => aRun P oc fn lv n todo env H
end
end Go.Proofs.YtkonkblfckhcbaaGreatDoor
namespace Go.Proofs.YtkonkblfckhcbaaGreatDoor
set_option linter.unusedVariables false
set_option linter.unusedSimpArgs false
open Go.RowKit

/-! ### lists, side by side -/
def All2 {α β : Type} (R : α → β → Prop) (xs : List α) (ys : List β) : Prop := xs.length = ys.length ∧ ∀ (i : Nat) (x : α) (y : β), xs[i]? = some x → ys[i]? = some y → R x y
namespace All2
variable {α β : Type} {R S : α → β → Prop} {xs xs' : List α} {ys ys' : List β}
theorem nil : All2 R [] [] := ⟨rfl, fun i x y h => by simp at h⟩
theorem cons {x : α} {y : β} (h : R x y) (hs : All2 R xs ys) : All2 R (x :: xs) (y :: ys) := ⟨by simp [hs.1], fun i a b ha hb => by
 cases i with
 | zero => simp at ha hb; subst ha; subst hb; exact h
 | succ i => simp at ha hb; exact hs.2 i a b ha hb⟩
theorem mono (h : ∀ x y, R x y → S x y) (hs : All2 R xs ys) : All2 S xs ys := ⟨hs.1, fun i x y hx hy => h x y (hs.2 i x y hx hy)⟩
theorem app (h : All2 R xs ys) (h' : All2 R xs' ys') : All2 R (xs ++ xs') (ys ++ ys') := ⟨by simp [h.1, h'.1], fun i x y hx hy => by
 rcases Nat.lt_or_ge i xs.length with hi | hi
 ·rw [List.getElem?_append_left hi] at hx
  rw [List.getElem?_append_left (by rw [← h.1]; exact hi)] at hy
  exact h.2 i x y hx hy
 ·rw [List.getElem?_append_right hi] at hx
  rw [List.getElem?_append_right (by rw [← h.1]; exact hi), ← h.1] at hy
  exact h'.2 _ x y hx hy⟩
theorem tk (h : All2 R xs ys) (n : Nat) : All2 R (xs.take n) (ys.take n) := ⟨by simp [h.1], fun i x y hx hy => by
 rw [List.getElem?_take] at hx hy
 split at hx
 ·rename_i hi; rw [if_pos hi] at hy; exact h.2 i x y hx hy
 ·cases hx⟩
theorem dp (h : All2 R xs ys) (n : Nat) : All2 R (xs.drop n) (ys.drop n) := ⟨by simp [h.1], fun i x y hx hy => by
 rw [List.getElem?_drop] at hx hy
 exact h.2 _ x y hx hy⟩
theorem one {x : α} (h : All2 R [x] ys) : ∃ y, ys = [y] ∧ R x y := by
 obtain ⟨hl, h⟩ := h
 match ys, hl with
 | [y], _ => exact ⟨y, rfl, h 0 x y rfl rfl⟩
theorem nil_of (h : All2 R [] ys) : ys = [] := List.eq_nil_of_length_eq_zero h.1.symm
theorem cons_of {x : α} (h : All2 R (x :: xs) ys) : ∃ y r, ys = y :: r ∧ R x y ∧ All2 R xs r := by
 obtain ⟨hl, h⟩ := h
 match ys, hl with
 | y :: r, hl => exact ⟨y, r, rfl, h 0 x y rfl rfl, by simpa using hl, fun i a b ha hb => h (i + 1) a b (by simpa using ha) (by simpa using hb)⟩
theorem get (h : All2 R xs ys) {i : Nat} {x : α} (hx : xs[i]? = some x) : ∃ y, ys[i]? = some y ∧ R x y := by
 have hi : i < ys.length := by rw [← h.1]; exact (List.getElem?_eq_some_iff.1 hx).1
 exact ⟨ys[i], List.getElem?_eq_getElem hi, h.2 i x _ hx (List.getElem?_eq_getElem hi)⟩
theorem set (h : All2 R xs ys) (i : Nat) {x : α} {y : β} (hr : R x y) : All2 R (xs.set i x) (ys.set i y) := ⟨by simp [h.1], fun j a b ha hb => by
 rw [List.getElem?_set] at ha hb
 split at ha
 ·rename_i hij
  subst hij
  split at ha
  ·rename_i hi
   rw [if_pos rfl, if_pos (by rw [← h.1]; exact hi)] at hb
   injection ha with ha; injection hb with hb
   subst ha; subst hb; exact hr
  ·cases ha
 ·rename_i hij
  rw [if_neg hij] at hb
  exact h.2 j a b ha hb⟩
end All2

/-! ### readings -/
def rdI (k : IntKind) : Rd Int where
 sz := 1
 K := fun _ _ x cs => cs = [.int k x] ∧ inR k x
 len := fun h' => by rw [h'.1]; rfl
 one := fun h' u hu => by rw [h'.1, List.mem_singleton] at hu; rw [hu]; rfl
 move := fun _ h => h
 mono := fun _ h => h
 bound := fun h => h
def Ty.rd : (t : Ty) → Rd t.El
 | .int k => rdI k
 | .bool => Rd.bool
 | .str => Rd.str
 | .pair a b => Rd.pair a.rd b.rd
 | .slice e => Rd.slice e.rd
theorem Ty.rd_sz (t : Ty) : t.rd.sz = t.sz := by
 induction t with
 | int => rfl
 | bool => rfl
 | str => rfl
 | pair a b iha ihb => show a.rd.sz + b.rd.sz = a.sz + b.sz; rw [iha, ihb]
 | slice e _ => rfl

/-- Where names lie, which names there are, what may be read for ever. -/
structure Sg where
 ι : Nat → Nat
 D : Nat → Prop
 R : Nat → Prop
 F : Nat → Nat → Prop
/-- All that a name owns. -/
def Sg.fp (σ : Sg) (b k : Nat) : Prop := σ.ι b = k ∨ σ.F b k

def CC (σ : Sg) (w : World) : CV → Value → Prop
 | .junk, v => v.oneCell' = true
 | .int k n, v => v = .int k n ∧ inR k n
 | .bool b, v => v = .bool b
 | .lit b, v => v = .bool b
 | .str s, v => v = .string s ∧ s.size ≤ 9223372036854775807
 | .flt n, v => v = .float .f64 n
 | .flo op a b, v => ∃ r, v = .float .f64 r ∧ (∀ q, floatBits op .f64 a b = some q → r = q) ∧ (floatBits op .f64 a b = none → fOrd r r = none)
 | .ro e xs, v => (Rd.slice e.rd).K σ.R w xs [v]
 | .sl b s i n, v => σ.D b ∧ 0 < s ∧ ∃ cap c e fr, v = .slice (some ⟨σ.ι b, i * s, none⟩) n cap ∧ n ≤ cap ∧ cap ≤ 9223372036854775807 ∧ w.heap[σ.ι b]? = some (.cells c e fr) ∧ (i + cap) * s = c.size
 | .osl b s n, v => if n = 0 then ∃ A, v = .slice A 0 0 else σ.D b ∧ 0 < s ∧ ∃ cap c e fr, v = .slice (some ⟨σ.ι b, 0, none⟩) n cap ∧ n ≤ cap ∧ cap ≤ 9223372036854775807 ∧ w.heap[σ.ι b]? = some (.cells c e fr) ∧ cap * s = c.size
 | .pre b s n, v => σ.D b ∧ 0 < s ∧ ∃ cap c e fr, v = .slice (some ⟨σ.ι b, 0, none⟩) n cap ∧ n ≤ cap ∧ cap ≤ 9223372036854775807 ∧ w.heap[σ.ι b]? = some (.cells c e fr) ∧ cap * s ≤ c.size
 | .nilsl, v => v = .slice none 0 0
 | .ptr b s i j, v => σ.D b ∧ v = .pointer (some ⟨σ.ι b, i * s + j, none⟩)
 | .pro e xs i j, v => ∃ A cap, (Rd.slice e.rd).K σ.R w xs [.slice (some A) xs.length cap] ∧ i < xs.length ∧ v = .pointer (some ⟨A.block, A.off + (i * e.sz + j), none⟩)
 | .nilptr, v => v = .pointer none
 | .map b, v => σ.D b ∧ v = .map (some (σ.ι b))
 | .nilmap, v => v = .map none
 | .fn0 f, v => v = .func (.func f) #[] #[]
 | .fnc g c, v => ∃ f cs u, v = .func (.func f) #[] (cs.push u) ∧ CC σ w g (.func (.func f) #[] cs) ∧ CC σ w c u
 | .nilfn, v => v = .nilFunc
abbrev CCs (σ : Sg) (w : World) (cs : List CV) (vs : List Value) : Prop := All2 (CC σ w) cs vs
def CA1 (σ : Sg) (w : World) : A1 → Value → Prop
 | .c c, v => CC σ w c v
 | .agg cs, v => ∃ vs, v = .agg vs ∧ CCs σ w cs vs.toList
def CA (σ : Sg) (w : World) : AV → Value → Prop
 | .junk, _ => True
 | .one a, v => CA1 σ w a v
 | .tup l, v => ∃ vs, v = .tuple vs ∧ All2 (CA1 σ w) l vs.toList
/-- A slice that is nil at first. -/
theorem CC.osl_zero {σ : Sg} {w : World} {b s : Nat} {v : Value} : CC σ w (.osl b s 0) v ↔ ∃ A, v = .slice A 0 0 := by
 simp [CC]
theorem CC.osl_pos {σ : Sg} {w : World} {b s n : Nat} {v : Value} (h : n ≠ 0) : CC σ w (.osl b s n) v ↔ CC σ w (.sl b s 0 n) v := by
 simp [CC, h]
theorem CC.one {σ : Sg} {w : World} {c : CV} {v : Value} (h : CC σ w c v) : v.oneCell' = true := by
 cases c <;> simp only [CC] at h
 case junk => exact h
 case int => rw [h.1]; rfl
 case bool => rw [h]; rfl
 case lit => rw [h]; rfl
 case str => rw [h.1]; rfl
 case flt => rw [h]; rfl
 case flo => obtain ⟨_, h, _⟩ := h; rw [h]; rfl
 case ro => exact (Rd.slice _).one h v (by simp)
 case sl => obtain ⟨_, _, _, _, _, _, h, _⟩ := h; rw [h]; rfl
 case pre => obtain ⟨_, _, _, _, _, _, h, _⟩ := h; rw [h]; rfl
 case osl =>
  split at h
  ·obtain ⟨_, h⟩ := h; rw [h]; rfl
  ·obtain ⟨_, _, _, _, _, _, h, _⟩ := h; rw [h]; rfl
 case nilsl => rw [h]; rfl
 case ptr => rw [h.2]; rfl
 case pro => obtain ⟨_, _, _, _, h⟩ := h; rw [h]; rfl
 case nilptr => rw [h]; rfl
 case map => rw [h.2]; rfl
 case nilmap => rw [h]; rfl
 case fn0 => rw [h]; rfl
 case fnc => obtain ⟨_, _, _, h, _⟩ := h; rw [h]; rfl
 case nilfn => rw [h]; rfl
theorem CC.cells {σ : Sg} {w : World} {c : CV} {v : Value} (h : CC σ w c v) : v.cells = #[v] := by
 have := h.one
 cases v <;> first | rfl | (simp [Value.oneCell'] at this)
/-- A value's cells. -/
theorem CA1.cells {σ : Sg} {w : World} {a : A1} {v : Value} (h : CA1 σ w a v) : CCs σ w a.cells v.cells.toList := by
 cases a with
 | c c => rw [CC.cells (σ := σ) (w := w) (c := c) h]; exact .cons h .nil
 | agg cs => obtain ⟨vs, rfl, h⟩ := h; exact h

/-- A step of the world, with more names and more that is read. -/
structure Ext (σ : Sg) (w : World) (σ' : Sg) (w' : World) : Prop where
 ι : ∀ k, σ.D k → σ'.D k ∧ σ'.ι k = σ.ι k
 R : ∀ k, σ.R k → σ'.R k
 keep : ∀ k, σ.R k → k < w.heap.size → w'.heap[k]? = w.heap[k]?
 shape : ∀ (k : Nat) (c : Array Value) (e : TypeId) (fr : Nat × Nat), w.heap[k]? = some (.cells c e fr) → ∃ c' fr', w'.heap[k]? = some (.cells c' e fr') ∧ c'.size = c.size
theorem Ext.refl (σ : Sg) (w : World) : Ext σ w σ w := ⟨fun k h => ⟨h, rfl⟩, fun _ h => h, fun _ _ _ => rfl, fun k c e fr h => ⟨c, fr, h, rfl⟩⟩
theorem Ext.trans {σ σ1 σ2 : Sg} {w w1 w2 : World} (h : Ext σ w σ1 w1) (h' : Ext σ1 w1 σ2 w2) : Ext σ w σ2 w2 where
 ι := fun k hk => by
  obtain ⟨a, b⟩ := h.ι k hk
  obtain ⟨a', b'⟩ := h'.ι k a
  exact ⟨a', b'.trans b⟩
 R := fun k hk => h'.R k (h.R k hk)
 keep := fun k hk hlt => by
  have e1 := h.keep k hk hlt
  rw [← e1]
  refine h'.keep k (h.R k hk) ?_
  exact Rd.size_of_block e1 hlt
 shape := fun k c e fr hk => by
  obtain ⟨c1, fr1, h1, e1⟩ := h.shape k c e fr hk
  obtain ⟨c2, fr2, h2, e2⟩ := h'.shape k c1 e fr1 h1
  exact ⟨c2, fr2, h2, e2.trans e1⟩
section
variable {σ σ' : Sg} {w w' : World}
theorem rd_ext {α : Type} {d : Rd α} (hx : Ext σ w σ' w') {x : α} {cs : List Value} (h : d.K σ.R w x cs) : d.K σ'.R w' x cs := d.mono (fun k hk => hx.R k hk) (d.move (fun k hk hlt => hx.keep k hk hlt) h)
theorem CC.ext (hx : Ext σ w σ' w') {c : CV} : ∀ {v : Value}, CC σ w c v → CC σ' w' c v := by
 induction c with
 | ro e xs => exact fun h => rd_ext hx h
 | sl b s i n =>
  intro v h
  obtain ⟨hD, hs, cap, c, e, fr, h1, h2, h3, h4, h5⟩ := h
  obtain ⟨hD', hι⟩ := hx.ι b hD
  obtain ⟨c', fr', h6, h7⟩ := hx.shape _ _ _ _ h4
  exact ⟨hD', hs, cap, c', e, fr', by rw [hι]; exact h1, h2, h3, by rw [hι]; exact h6, by rw [h7]; exact h5⟩
 | pre b s n =>
  intro v h
  obtain ⟨hD, hs, cap, c, e, fr, h1, h2, h3, h4, h5⟩ := h
  obtain ⟨hD', hι⟩ := hx.ι b hD
  obtain ⟨c', fr', h6, h7⟩ := hx.shape _ _ _ _ h4
  exact ⟨hD', hs, cap, c', e, fr', by rw [hι]; exact h1, h2, h3, by rw [hι]; exact h6, by rw [h7]; exact h5⟩
 | osl b s n =>
  intro v h
  by_cases hn : n = 0
  ·subst hn; exact CC.osl_zero.2 (CC.osl_zero.1 h)
  ·rw [CC.osl_pos hn] at h ⊢
   obtain ⟨hD, hs, cap, c, e, fr, h1, h2, h3, h4, h5⟩ := h
   obtain ⟨hD', hι⟩ := hx.ι b hD
   obtain ⟨c', fr', h6, h7⟩ := hx.shape _ _ _ _ h4
   exact ⟨hD', hs, cap, c', e, fr', by rw [hι]; exact h1, h2, h3, by rw [hι]; exact h6, by rw [h7]; exact h5⟩
 | ptr b s i j =>
  intro v h
  obtain ⟨hD', hι⟩ := hx.ι b h.1
  exact ⟨hD', by rw [hι]; exact h.2⟩
 | pro e xs i j =>
  intro v h
  obtain ⟨A, cap, h1, h2⟩ := h
  exact ⟨A, cap, rd_ext hx h1, h2⟩
 | map b =>
  intro v h
  obtain ⟨hD', hι⟩ := hx.ι b h.1
  exact ⟨hD', by rw [hι]; exact h.2⟩
 | fnc g c ihg ihc =>
  intro v h
  obtain ⟨f, cs, u, h1, h2, h3⟩ := h
  exact ⟨f, cs, u, h1, ihg h2, ihc h3⟩
 | _ => exact fun h => h
theorem CCs.ext (hx : Ext σ w σ' w') {cs : List CV} {vs : List Value} (h : CCs σ w cs vs) : CCs σ' w' cs vs := h.mono fun _ _ h => h.ext hx
theorem CA1.ext (hx : Ext σ w σ' w') {a : A1} {v : Value} (h : CA1 σ w a v) : CA1 σ' w' a v := by
 cases a with
 | c c => exact CC.ext (c := c) hx h
 | agg cs => obtain ⟨vs, e, h⟩ := h; exact ⟨vs, e, h.ext hx⟩
theorem CA.ext (hx : Ext σ w σ' w') {a : AV} {v : Value} (h : CA σ w a v) : CA σ' w' a v := by
 cases a with
 | junk => trivial
 | one a => exact CA1.ext hx h
 | tup l => obtain ⟨vs, e, h⟩ := h; exact ⟨vs, e, h.mono fun _ _ h => h.ext hx⟩
end

/-! ### data as cells -/
theorem enc_len (t : Ty) : ∀ x : t.El, (t.enc x).length = t.sz := by
 induction t with
 | pair a b iha ihb => intro x; simp [Ty.enc, Ty.sz, iha, ihb]
 | _ => intro x; rfl
/-- What is read is what the codes say. -/
theorem rd_enc {σ : Sg} {w : World} (t : Ty) : ∀ {x : t.El} {cs : List Value}, t.rd.K σ.R w x cs → CCs σ w (t.enc x) cs := by
 induction t with
 | int k => intro x cs h; obtain ⟨h1, h2⟩ := h; rw [h1]; exact .cons ⟨rfl, h2⟩ .nil
 | bool =>
  intro x cs h
  have h : cs = [.bool x] := h
  rw [h]; exact .cons rfl .nil
 | str => intro x cs h; obtain ⟨h1, h2⟩ := h; rw [h1]; exact .cons ⟨rfl, h2⟩ .nil
 | pair a b iha ihb =>
  intro x cs h
  obtain ⟨c0, c1, h, h0, h1⟩ := h
  rw [h]
  exact (iha h0).app (ihb h1)
 | slice e _ =>
  intro x cs h
  obtain ⟨A, c, rfl, h'⟩ := h
  exact .cons ⟨A, c, rfl, h'⟩ .nil
theorem rd_nil {e : Ty} {R : Nat → Prop} {w : World} : (Rd.slice e.rd).K R w [] [.slice none 0 0] := ⟨none, 0, rfl, Nat.le_refl _, by omega, fun _ => rfl, Rd.C.nil _ _ _ _⟩
/-- Cells that the codes take are read so. -/
theorem dec_rd {σ : Sg} {w : World} (t : Ty) : ∀ {cs r : List CV} {x : t.El} {vs : List Value}, t.dec cs = some (x, r) → CCs σ w cs vs → t.rd.K σ.R w x (vs.take t.sz) ∧ CCs σ w r (vs.drop t.sz) ∧ t.sz ≤ vs.length := by
 induction t with
 | int k =>
  intro cs r x vs h hc
  match cs, h with
  | .int k' n :: cs', h =>
   simp only [Ty.dec] at h
   split at h
   ·rename_i hk
    subst hk
    injection h with h
    injection h with h1 h2
    subst h1; subst h2
    obtain ⟨y, vs', rfl, ⟨rfl, hy⟩, hr⟩ := hc.cons_of
    exact ⟨⟨rfl, hy⟩, hr, by simp [Ty.sz]⟩
   ·cases h
 | bool =>
  intro cs r x vs h hc
  match cs, h with
  | .bool b :: cs', h =>
   simp only [Ty.dec] at h
   injection h with h
   injection h with h1 h2
   subst h1; subst h2
   obtain ⟨y, vs', rfl, hy, hr⟩ := hc.cons_of
   have hy : y = .bool b := hy
   subst hy
   exact ⟨rfl, hr, by simp [Ty.sz]⟩
  | .lit b :: cs', h =>
   simp only [Ty.dec] at h
   injection h with h
   injection h with h1 h2
   subst h1; subst h2
   obtain ⟨y, vs', rfl, hy, hr⟩ := hc.cons_of
   have hy : y = .bool b := hy
   subst hy
   exact ⟨rfl, hr, by simp [Ty.sz]⟩
 | str =>
  intro cs r x vs h hc
  match cs, h with
  | .str b :: cs', h =>
   simp only [Ty.dec] at h
   injection h with h
   injection h with h1 h2
   subst h1; subst h2
   obtain ⟨y, vs', rfl, ⟨rfl, hy⟩, hr⟩ := hc.cons_of
   exact ⟨⟨rfl, hy⟩, hr, by simp [Ty.sz]⟩
 | pair a b iha ihb =>
  intro cs r x vs h hc
  simp only [Ty.dec] at h
  split at h
  ·rename_i x1 r1 h1
   split at h
   ·rename_i x2 r2 h2
    injection h with h
    injection h with e1 e2
    subst e1; subst e2
    obtain ⟨k1, c1, l1⟩ := iha h1 hc
    obtain ⟨k2, c2, l2⟩ := ihb h2 c1
    refine ⟨⟨_, _, ?_, k1, k2⟩, ?_, ?_⟩
    ·show vs.take (a.sz + b.sz) = _
     rw [List.take_add]
    ·show CCs σ w _ (vs.drop (a.sz + b.sz))
     rw [← List.drop_drop]; exact c2
    ·show a.sz + b.sz ≤ _
     rw [List.length_drop] at l2; omega
   ·cases h
  ·cases h
 | slice e _ =>
  intro cs r x vs h hc
  match cs, h with
  | .ro e' xs :: cs', h =>
   simp only [Ty.dec] at h
   split at h
   ·rename_i he
    subst he
    injection h with h
    injection h with h1 h2
    subst h1; subst h2
    obtain ⟨y, vs', rfl, hy, hr⟩ := hc.cons_of
    exact ⟨hy, hr, by simp [Ty.sz]⟩
   ·cases h
  | .nilsl :: cs', h =>
   simp only [Ty.dec] at h
   injection h with h
   injection h with h1 h2
   subst h1; subst h2
   obtain ⟨y, vs', rfl, hy, hr⟩ := hc.cons_of
   have hy : y = .slice none 0 0 := hy
   subst hy
   exact ⟨rd_nil, hr, by simp [Ty.sz]⟩

/-! ### rows of rows -/
inductive Md where
 | own
 | ro
 | apart
/-- An element's cells, from place o on: 'md' tells whose each row is, 'ψ' what it owns. -/
def Sk.At (R : Nat → Prop) (w : World) : (s : Sk) → (Nat → Md) → Nat → s.ty.El → List Value → (Nat → Nat → Prop) → Prop
 | .int k, _, _, x, cs, _ => (rdI k).K R w x cs
 | .bool, _, _, x, cs, _ => Rd.bool.K R w x cs
 | .str, _, _, x, cs, _ => Rd.str.K R w x cs
 | .ro e, _, _, x, cs, _ => (Rd.slice e.rd).K R w x cs
 | .pair a b, md, o, x, cs, ψ => a.At R w md o x.1 (cs.take a.ty.sz) ψ ∧ b.At R w md (o + a.ty.sz) x.2 (cs.drop a.ty.sz) ψ
 | .slice e s, md, o, ys, cs, ψ => ∃ v, cs = [v] ∧ match md o with
  | .apart => v.oneCell' = true
  | .ro => (Rd.slice s.ty.rd).K R w ys [v]
  | .own => (ys = [] ∧ ∃ A, v = .slice A 0 0) ∨ (ys ≠ [] ∧ ∃ q cap c, v = .slice (some ⟨q, 0, none⟩) ys.length cap ∧ ys.length ≤ cap ∧ cap ≤ 9223372036854775807 ∧ 0 < s.ty.sz ∧ w.heap[q]? = some (.cells c e (0, 0)) ∧ cap * s.ty.sz = c.size ∧ ψ o q ∧
   ∃ χ : Nat → Nat → Nat → Prop, (∀ i j k, χ i j k → ψ o k ∧ k ≠ q) ∧ (∀ i j i' j' k, χ i j k → χ i' j' k → i = i' ∧ j = j') ∧ ∀ (i : Nat) (y : s.ty.El), ys[i]? = some y → s.At R w (fun _ => .own) 0 y ((c.toList.drop (i * s.ty.sz)).take s.ty.sz) (χ i))
/-- A row that its holder owns. -/
def OwnSl (R : Nat → Prop) (w : World) (e : TypeId) (s : Sk) (ys : List s.ty.El) (v : Value) (φ : Nat → Prop) : Prop :=
 (ys = [] ∧ ∃ A, v = .slice A 0 0) ∨ (ys ≠ [] ∧ ∃ q cap c, v = .slice (some ⟨q, 0, none⟩) ys.length cap ∧ ys.length ≤ cap ∧ cap ≤ 9223372036854775807 ∧ 0 < s.ty.sz ∧ w.heap[q]? = some (.cells c e (0, 0)) ∧ cap * s.ty.sz = c.size ∧ φ q ∧
   ∃ χ : Nat → Nat → Nat → Prop, (∀ i j k, χ i j k → φ k ∧ k ≠ q) ∧ (∀ i j i' j' k, χ i j k → χ i' j' k → i = i' ∧ j = j') ∧ ∀ (i : Nat) (y : s.ty.El), ys[i]? = some y → s.At R w (fun _ => .own) 0 y ((c.toList.drop (i * s.ty.sz)).take s.ty.sz) (χ i))
/-- One place. -/
def Pos (σ : Sg) (w : World) (m : Md) (v : Value) (φ : Nat → Prop) : Slot → Prop
 | .cv c => CC σ w c v
 | .sl e s ys => match m with
  | .apart => v.oneCell' = true
  | .ro => (Rd.slice s.ty.rd).K σ.R w ys [v]
  | .own => OwnSl σ.R w e s ys v φ
 | .no => False
theorem sz_pos (s : Sk) : 0 < s.ty.sz := by
 induction s with
 | pair a b iha ihb => show 0 < a.ty.sz + b.ty.sz; omega
 | _ => exact Nat.one_pos
theorem one_at {α : Type} {v u : α} {j : Nat} (h : [v][j]? = some u) : j = 0 ∧ u = v := by
 cases j with
 | zero => simp at h; exact ⟨rfl, h.symm⟩
 | succ j => simp at h
/-- Place by place. -/
theorem at_iff {σ : Sg} {w : World} (s : Sk) : ∀ {md : Nat → Md} {o : Nat} {x : s.ty.El} {cs : List Value} {ψ : Nat → Nat → Prop}, s.At σ.R w md o x cs ψ ↔ cs.length = s.ty.sz ∧ ∀ j v, cs[j]? = some v → Pos σ w (md (o + j)) v (ψ (o + j)) (s.slot x j) := by
 induction s with
 | int k =>
  intro md o x cs ψ
  constructor
  ·rintro ⟨rfl, h⟩
   refine ⟨rfl, fun j v hv => ?_⟩
   obtain ⟨rfl, rfl⟩ := one_at hv
   exact ⟨rfl, h⟩
  ·rintro ⟨hl, h⟩
   match cs, hl with
   | [v], _ =>
    have := h 0 v rfl
    obtain ⟨e, h2⟩ : v = .int k x ∧ inR k x := this
    exact ⟨by rw [e], h2⟩
 | bool =>
  intro md o x cs ψ
  constructor
  ·intro h
   have h : cs = [.bool x] := h
   subst h
   refine ⟨rfl, fun j v hv => ?_⟩
   obtain ⟨rfl, rfl⟩ := one_at hv
   exact rfl
  ·rintro ⟨hl, h⟩
   match cs, hl with
   | [v], _ =>
    have e : v = .bool x := h 0 v rfl
    show _ = _
    rw [e]
 | str =>
  intro md o x cs ψ
  constructor
  ·rintro ⟨rfl, h⟩
   refine ⟨rfl, fun j v hv => ?_⟩
   obtain ⟨rfl, rfl⟩ := one_at hv
   exact ⟨rfl, h⟩
  ·rintro ⟨hl, h⟩
   match cs, hl with
   | [v], _ =>
    obtain ⟨e, h2⟩ : v = .string x ∧ x.size ≤ 9223372036854775807 := h 0 v rfl
    exact ⟨by rw [e], h2⟩
 | ro e =>
  intro md o x cs ψ
  constructor
  ·intro h
   have hl : cs.length = 1 := (Rd.slice e.rd).len h
   refine ⟨hl, fun j v hv => ?_⟩
   match cs, hl with
   | [u], _ =>
    obtain ⟨rfl, rfl⟩ := one_at hv
    exact h
  ·rintro ⟨hl, h⟩
   match cs, hl with
   | [v], _ => exact h 0 v rfl
 | slice e s _ =>
  intro md o x cs ψ
  constructor
  ·rintro ⟨v, rfl, h⟩
   refine ⟨rfl, fun j u hv => ?_⟩
   obtain ⟨rfl, rfl⟩ := one_at hv
   show match md o with
    | .apart => u.oneCell' = true
    | .ro => (Rd.slice s.ty.rd).K σ.R w x [u]
    | .own => OwnSl σ.R w e s x u (ψ o)
   cases hm : md o <;> rw [hm] at h <;> exact h
  ·rintro ⟨hl, h⟩
   match cs, hl with
   | [v], _ =>
    refine ⟨v, rfl, ?_⟩
    have h0 : match md o with
     | .apart => v.oneCell' = true
     | .ro => (Rd.slice s.ty.rd).K σ.R w x [v]
     | .own => OwnSl σ.R w e s x v (ψ o) := h 0 v rfl
    cases hm : md o <;> rw [hm] at h0 <;> exact h0
 | pair a b iha ihb =>
  intro md o x cs ψ
  show (a.At σ.R w md o x.1 (cs.take a.ty.sz) ψ ∧ b.At σ.R w md (o + a.ty.sz) x.2 (cs.drop a.ty.sz) ψ) ↔ cs.length = a.ty.sz + b.ty.sz ∧ _
  rw [iha, ihb]
  constructor
  ·rintro ⟨⟨l1, h1⟩, l2, h2⟩
   have ha := sz_pos a
   have hb := sz_pos b
   rw [List.length_take] at l1
   rw [List.length_drop] at l2
   refine ⟨by omega, fun j v hv => ?_⟩
   show Pos σ w (md (o + j)) v (ψ (o + j)) (if j < a.ty.sz then a.slot x.1 j else b.slot x.2 (j - a.ty.sz))
   by_cases hj : j < a.ty.sz
   ·rw [if_pos hj]
    exact h1 j v (by rw [List.getElem?_take, if_pos hj]; exact hv)
   ·rw [if_neg hj]
    have := h2 (j - a.ty.sz) v (by rw [List.getElem?_drop, show a.ty.sz + (j - a.ty.sz) = j by omega]; exact hv)
    rwa [show o + a.ty.sz + (j - a.ty.sz) = o + j by omega] at this
  ·rintro ⟨hl, h⟩
   refine ⟨⟨by rw [List.length_take]; omega, fun j v hv => ?_⟩, by rw [List.length_drop]; omega, fun j v hv => ?_⟩
   ·rw [List.getElem?_take] at hv
    split at hv
    ·rename_i hj
     have := h j v hv
     have e : (Sk.pair a b).slot x j = a.slot x.1 j := if_pos hj
     rwa [e] at this
    ·cases hv
   ·rw [List.getElem?_drop] at hv
    have := h (a.ty.sz + j) v hv
    have e : (Sk.pair a b).slot x (a.ty.sz + j) = b.slot x.2 j := by
     show (if a.ty.sz + j < a.ty.sz then _ else b.slot x.2 (a.ty.sz + j - a.ty.sz)) = _
     rw [if_neg (by omega), show a.ty.sz + j - a.ty.sz = j by omega]
    rw [e] at this
    rwa [show o + a.ty.sz + j = o + (a.ty.sz + j) by omega]
/-- Where nothing that it owns has turned. -/
theorem at_ext {σ σ' : Sg} {w w' : World} (hx : Ext σ w σ' w') (s : Sk) : ∀ {md : Nat → Md} {o : Nat} {x : s.ty.El} {cs : List Value} {ψ : Nat → Nat → Prop}, (∀ j k, ψ j k → w'.heap[k]? = w.heap[k]?) → s.At σ.R w md o x cs ψ → s.At σ'.R w' md o x cs ψ := by
 induction s with
 | int k => exact fun _ h => rd_ext (d := rdI k) hx h
 | bool => exact fun _ h => rd_ext (d := Rd.bool) hx h
 | str => exact fun _ h => rd_ext (d := Rd.str) hx h
 | ro e => exact fun _ h => rd_ext (d := Rd.slice e.rd) hx h
 | pair a b iha ihb => exact fun hk h => ⟨iha hk h.1, ihb hk h.2⟩
 | slice e s ih =>
  rintro md o x cs ψ hk ⟨v, rfl, h⟩
  refine ⟨v, rfl, ?_⟩
  cases hm : md o <;> rw [hm] at h
  ·rcases h with h | ⟨hne, q, cap, c, h1, h2, h3, h4, h5, h6, h7, χ, h8, h9, h10⟩
   ·exact .inl h
   ·exact .inr ⟨hne, q, cap, c, h1, h2, h3, h4, (hk o q h7).trans h5, h6, h7, χ, h8, h9, fun i y hi => ih (fun j k hc => hk o k (h8 i j k hc).1) (h10 i y hi)⟩
  ·exact rd_ext (d := Rd.slice s.ty.rd) hx h
  ·exact h
theorem OwnSl.ext {σ σ' : Sg} {w w' : World} (hx : Ext σ w σ' w') {e : TypeId} {s : Sk} {ys : List s.ty.El} {v : Value} {φ : Nat → Prop} (hk : ∀ k, φ k → w'.heap[k]? = w.heap[k]?) (h : OwnSl σ.R w e s ys v φ) : OwnSl σ'.R w' e s ys v φ := by
 rcases h with h | ⟨hne, q, cap, c, h1, h2, h3, h4, h5, h6, h7, χ, h8, h9, h10⟩
 ·exact .inl h
 ·exact .inr ⟨hne, q, cap, c, h1, h2, h3, h4, (hk q h7).trans h5, h6, h7, χ, h8, h9, fun i y hi => at_ext hx s (fun j k hc => hk k (h8 i j k hc).1) (h10 i y hi)⟩
/-- What is read, as such. -/
theorem at_of_rd {R : Nat → Prop} {w : World} (s : Sk) : ∀ {md : Nat → Md} {o : Nat} {x : s.ty.El} {cs : List Value} {ψ : Nat → Nat → Prop}, (∀ j, j < s.ty.sz → md (o + j) = .ro) → s.ty.rd.K R w x cs → s.At R w md o x cs ψ := by
 induction s with
 | int k => exact fun _ h => h
 | bool => exact fun _ h => h
 | str => exact fun _ h => h
 | ro e => exact fun _ h => h
 | pair a b iha ihb =>
  intro md o x cs ψ hm h
  obtain ⟨c0, c1, rfl, h0, h1⟩ := h
  have l0 : c0.length = a.ty.sz := by rw [← a.ty.rd_sz]; exact a.ty.rd.len h0
  have ht : (c0 ++ c1).take a.ty.sz = c0 := by rw [← l0]; simp
  have hd : (c0 ++ c1).drop a.ty.sz = c1 := by rw [← l0]; simp
  refine ⟨?_, ?_⟩
  ·rw [ht]; exact iha (fun j hj => hm j (by show j < a.ty.sz + b.ty.sz; omega)) h0
  ·rw [hd]; exact ihb (fun j hj => by rw [Nat.add_assoc]; exact hm (a.ty.sz + j) (by show _ < a.ty.sz + b.ty.sz; omega)) h1
 | slice e s _ =>
  intro md o x cs ψ hm h
  have hl : cs.length = 1 := (Rd.slice s.ty.rd).len h
  match cs, hl with
  | [v], _ =>
   refine ⟨v, rfl, ?_⟩
   have := hm 0 Nat.one_pos
   rw [Nat.add_zero] at this
   rw [this]
   exact h
/-- It asks each place alone. -/
theorem at_congr {R : Nat → Prop} {w : World} (s : Sk) : ∀ {md md' : Nat → Md} {o : Nat} {x : s.ty.El} {cs : List Value} {ψ ψ' : Nat → Nat → Prop}, (∀ j, j < s.ty.sz → md (o + j) = md' (o + j) ∧ ∀ k, ψ (o + j) k → ψ' (o + j) k) → s.At R w md o x cs ψ → s.At R w md' o x cs ψ' := by
 induction s with
 | int k => exact fun _ h => h
 | bool => exact fun _ h => h
 | str => exact fun _ h => h
 | ro e => exact fun _ h => h
 | pair a b iha ihb => exact fun hm h => ⟨iha (fun j hj => hm j (by show j < a.ty.sz + b.ty.sz; omega)) h.1, ihb (fun j hj => by rw [Nat.add_assoc]; exact hm (a.ty.sz + j) (by show _ < a.ty.sz + b.ty.sz; omega)) h.2⟩
 | slice e s _ =>
  rintro md md' o x cs ψ ψ' hm ⟨v, rfl, h⟩
  have h0 := hm 0 Nat.one_pos
  rw [Nat.add_zero] at h0
  refine ⟨v, rfl, ?_⟩
  rw [← h0.1]
  cases hmd : md o <;> rw [hmd] at h
  ·rcases h with h | ⟨hne, q, cap, c, h1, h2, h3, h4, h5, h6, h7, χ, h8, h9, h10⟩
   ·exact .inl h
   ·exact .inr ⟨hne, q, cap, c, h1, h2, h3, h4, h5, h6, h0.2 q h7, χ, fun i j k hc => ⟨h0.2 k (h8 i j k hc).1, (h8 i j k hc).2⟩, h9, h10⟩
  ·exact h
  ·exact h
/-- Whose a place is. -/
def mdOf (ko : Option (Nat × Nat)) (hi : Nat) (hs : List (Nat × CV)) (i j : Nat) : Md :=
 if i = hi ∧ (holeAt hs j).isSome = true then .apart else match ko with
  | none => .own
  | some (k, o) => if i < k ∨ (i = k ∧ j < o) then .own else .ro

/-! ### memory -/
/-- A row that is nil at first is no block while it is empty. -/
def nrm : AB → AB
 | .ovec e t xs => match xs with
  | [] => .dead
  | x :: r => .vec e t (x :: r)
 | .nest e s xs ko hi hs => match xs with
  | [] => .dead
  | x :: r => .nest e s (x :: r) ko hi hs
 | b => b
theorem nrm_ovec {e : TypeId} {t : Ty} {xs : List t.El} (h : xs ≠ []) : nrm (.ovec e t xs) = .vec e t xs := by
 cases xs with
 | nil => exact absurd rfl h
 | cons x r => rfl
def Blk (σ : Sg) (w : World) (b : Nat) (φ : Nat → Prop) : AB → Prop
 | .dead => True
 | .cells e cs => ∃ c, w.heap[b]? = some (.cells c e (0, 0)) ∧ CCs σ w cs c.toList
 | .vec e t xs => ∃ c, w.heap[b]? = some (.cells c e (0, 0)) ∧ xs.length * t.sz ≤ c.size ∧ ∀ i x, xs[i]? = some x → t.rd.K σ.R w x ((c.toList.drop (i * t.sz)).take t.sz)
 | .ovec e t xs => ∃ c, w.heap[b]? = some (.cells c e (0, 0)) ∧ xs.length * t.sz ≤ c.size ∧ ∀ i x, xs[i]? = some x → t.rd.K σ.R w x ((c.toList.drop (i * t.sz)).take t.sz)
 | .map k kt et n m => ∃ f, MapIs Tryz.prog k w b n f ∧ (∀ x, f (plainV kt x) = (m x).map (plainV et)) ∧ ∀ x y, m x = some y → et.ok y
 | .nest e s xs ko hi hs => ∃ c, w.heap[b]? = some (.cells c e (0, 0)) ∧ xs.length * s.ty.sz ≤ c.size ∧ ∃ χ : Nat → Nat → Nat → Prop, (∀ i j k, χ i j k → φ k ∧ k ≠ b) ∧ (∀ i j i' j' k, χ i j k → χ i' j' k → i = i' ∧ j = j') ∧
  (∀ (i : Nat) (y : s.ty.El), xs[i]? = some y → s.At σ.R w (mdOf ko hi hs i) 0 y ((c.toList.drop (i * s.ty.sz)).take s.ty.sz) (χ i)) ∧ ∀ (j : Nat) (v : CV) (y : s.ty.El) (e' : TypeId) (s' : Sk) (ys : List s'.ty.El), holeAt hs j = some v → xs[hi]? = some y → s.slot y j = .sl e' s' ys → ∃ u, ((c.toList.drop (hi * s.ty.sz)).take s.ty.sz)[j]? = some u ∧ CC σ w v u
/-- The global variables that are read hold what was laid. -/
def GlobOk (R : Nat → Prop) (w : World) : Prop := ∀ g k xs, globOf globsRaw g = some (k, xs) → (Rd.slice (Ty.int k).rd).K R w xs [.slice (some ⟨g, 0, none⟩) xs.length xs.length]
theorem GlobOk.mono {R R' : Nat → Prop} {w : World} (hR : ∀ k, R k → R' k) (h : GlobOk R w) : GlobOk R' w := fun g k xs hg => (Rd.slice (Ty.int k).rd).mono hR (h g k xs hg)
theorem GlobOk.ext {σ σ' : Sg} {w w' : World} (hx : Ext σ w σ' w') (h : GlobOk σ.R w) : GlobOk σ'.R w' := fun g k xs hg => rd_ext hx (h g k xs hg)
/-- A block of cells. -/
def IsC (w : World) (k : Nat) : Prop := ∃ c e fr, w.heap[k]? = some (.cells c e fr)
theorem IsC.lt {w : World} {k : Nat} (h : IsC w k) : k < w.heap.size := by
 obtain ⟨c, e, fr, h⟩ := h
 exact (Array.getElem?_eq_some_iff.1 h).1
theorem IsC.ext {σ σ' : Sg} {w w' : World} {k : Nat} (hx : Ext σ w σ' w') (h : IsC w k) : IsC w' k := by
 obtain ⟨c, e, fr, h⟩ := h
 obtain ⟨c', fr', h', _⟩ := hx.shape _ _ _ _ h
 exact ⟨c', e, fr', h'⟩
structure RelG (σ : Sg) (G : Nat → AB) (w : World) : Prop where
 dom : ∀ b, G b ≠ .dead → σ.D b
 blk : ∀ b, G b ≠ .dead → Blk σ w (σ.ι b) (σ.F b) (G b)
 injF : ∀ b b', G b ≠ .dead → G b' ≠ .dead → ∀ k, σ.fp b k → σ.fp b' k → b = b'
 outF : ∀ b, G b ≠ .dead → ∀ k, σ.fp b k → ¬ σ.R k
 rlt : ∀ k, σ.R k → k < w.heap.size
 glob : GlobOk σ.R w
 flt : ∀ b, G b ≠ .dead → ∀ k, σ.F b k → IsC w k
theorem RelG.inj {σ : Sg} {G : Nat → AB} {w : World} (h : RelG σ G w) (b b' : Nat) (hb : G b ≠ .dead) (hb' : G b' ≠ .dead) (e : σ.ι b = σ.ι b') : b = b' := h.injF b b' hb hb' _ (.inl rfl) (.inl e.symm)
theorem RelG.out {σ : Sg} {G : Nat → AB} {w : World} (h : RelG σ G w) (b : Nat) (hb : G b ≠ .dead) : ¬ σ.R (σ.ι b) := h.outF b hb _ (.inl rfl)
theorem nrm_nest {e : TypeId} {s : Sk} {xs : List s.ty.El} {ko : Option (Nat × Nat)} {hi : Nat} {hs : List (Nat × CV)} (h : xs ≠ []) : nrm (.nest e s xs ko hi hs) = .nest e s xs ko hi hs := by
 cases xs with
 | nil => exact absurd rfl h
 | cons x r => rfl
theorem Blk.nrm {σ : Sg} {w : World} {b : Nat} {φ : Nat → Prop} {ab : AB} (h : Blk σ w b φ ab) : Blk σ w b φ (nrm ab) := by
 cases ab with
 | ovec e t xs =>
  cases xs with
  | nil => trivial
  | cons x r => exact h
 | nest e s xs ko hi hs =>
  cases xs with
  | nil => trivial
  | cons x r => exact h
 | _ => exact h
theorem Blk.lt {σ : Sg} {w : World} {b : Nat} {φ : Nat → Prop} {ab : AB} (h : Blk σ w b φ ab) (ha : ab ≠ .dead) : b < w.heap.size := by
 cases ab with
 | dead => exact absurd rfl ha
 | ovec e t xs => obtain ⟨c, h, _⟩ := h; exact (Array.getElem?_eq_some_iff.1 h).1
 | cells e cs => obtain ⟨c, h, _⟩ := h; exact (Array.getElem?_eq_some_iff.1 h).1
 | vec e t xs => obtain ⟨c, h, _⟩ := h; exact (Array.getElem?_eq_some_iff.1 h).1
 | map k kt et n m => obtain ⟨f, h, _⟩ := h; exact h.lt
 | nest e s xs ko hi hs => obtain ⟨c, h, _⟩ := h; exact (Array.getElem?_eq_some_iff.1 h).1
/-- A block that has not turned. -/
theorem Blk.same {σ σ' : Sg} {w w' : World} {b : Nat} {φ : Nat → Prop} {ab : AB} (hx : Ext σ w σ' w') (hb : w'.heap[b]? = w.heap[b]?) (hφ : ∀ k, φ k → w'.heap[k]? = w.heap[k]?) (h : Blk σ w b φ ab) : Blk σ' w' b φ ab := by
 cases ab with
 | dead => trivial
 | cells e cs => obtain ⟨c, h1, h2⟩ := h; exact ⟨c, hb.trans h1, h2.ext hx⟩
 | vec e t xs => obtain ⟨c, h1, h2, h4⟩ := h; exact ⟨c, hb.trans h1, h2, fun i x hi => rd_ext hx (h4 i x hi)⟩
 | ovec e t xs => obtain ⟨c, h1, h2, h4⟩ := h; exact ⟨c, hb.trans h1, h2, fun i x hi => rd_ext hx (h4 i x hi)⟩
 | map k kt et n m => obtain ⟨f, h1, h2⟩ := h; exact ⟨f, h1.block hb, h2⟩
 | nest e s xs ko hi hs =>
  obtain ⟨c, h1, h2, χ, h3, h4, h5, h6⟩ := h
  refine ⟨c, hb.trans h1, h2, χ, h3, h4, fun i y hi' => at_ext hx s (fun j k hc => hφ k (h3 i j k hc).1) (h5 i y hi'), fun j v y e' s' ys hv hl hsl => ?_⟩
  obtain ⟨u, hu, hc⟩ := h6 j v y e' s' ys hv hl hsl
  exact ⟨u, hu, hc.ext hx⟩
/-- Nothing but the blocks of 'fp' has turned. -/
structure Chg (fp : Nat → Prop) (w w' : World) : Prop where
 os : w'.os = w.os
 tape : w'.tape = w.tape
 output : w'.output = w.output
 size : w.heap.size ≤ w'.heap.size
 block : ∀ k, k < w.heap.size → ¬ fp k → w'.heap[k]? = w.heap[k]?
theorem Chg.refl (fp : Nat → Prop) (w : World) : Chg fp w w := ⟨rfl, rfl, rfl, Nat.le_refl _, fun _ _ _ => rfl⟩
theorem Chg.trans {fp fp' : Nat → Prop} {a b c : World} (h : Chg fp a b) (h' : Chg fp' b c) (hf : ∀ k, k < a.heap.size → fp' k → fp k) : Chg fp a c :=
 ⟨h'.os.trans h.os, h'.tape.trans h.tape, h'.output.trans h.output, Nat.le_trans h.size h'.size, fun k hk hn => (h'.block k (Nat.lt_of_lt_of_le hk h.size) (fun hf' => hn (hf k hk hf'))).trans (h.block k hk hn)⟩
theorem Chg.mono {fp fp' : Nat → Prop} {a b : World} (h : Chg fp a b) (hf : ∀ k, fp k → fp' k) : Chg fp' a b := ⟨h.os, h.tape, h.output, h.size, fun k hk hn => h.block k hk (fun hf' => hn (hf k hf'))⟩
theorem RelG.ltF {σ : Sg} {G : Nat → AB} {w : World} (h : RelG σ G w) {b : Nat} (hb : G b ≠ .dead) {k : Nat} (hk : σ.fp b k) : k < w.heap.size := by
 rcases hk with rfl | hk
 ·exact (h.blk b hb).lt hb
 ·exact (h.flt b hb k hk).lt
theorem Chg.below {w w' : World} (h : Chg (fun _ => False) w w') : Below w.heap.size w w' := ⟨h.os, h.tape, h.output, h.size, fun k hk => h.block k hk id⟩
theorem Chg.of_below {w w' : World} (h : Below w.heap.size w w') : Chg (fun _ => False) w w' := ⟨h.os, h.tape, h.output, h.size, fun k hk _ => h.block k hk⟩
/-- The blocks behind some names. -/
def fpOf (σ : Sg) (G : Nat → AB) (wr : List Nat) (k : Nat) : Prop := ∃ b ∈ wr, G b ≠ .dead ∧ σ.fp b k
def updG (G : Nat → AB) (wr : List Nat) (G' : Nat → AB) (b : Nat) : AB := if b ∈ wr then G' b else G b
/-- One step: what is written, and where it lies. -/
structure Stp (σ : Sg) (G : Nat → AB) (w : World) (wr : List Nat) (G' : Nat → AB) (σ' : Sg) (w' : World) : Prop where
 D : ∀ b, σ'.D b ↔ σ.D b ∨ b ∈ wr
 ext : Ext σ w σ' w'
 chg : Chg (fpOf σ G wr) w w'
 blk : ∀ b ∈ wr, G' b ≠ .dead → Blk σ' w' (σ'.ι b) (σ'.F b) (G' b)
 locF : ∀ b ∈ wr, G' b ≠ .dead → ∀ k, σ'.fp b k → fpOf σ G wr k ∨ w.heap.size ≤ k
 injF : ∀ b ∈ wr, ∀ b' ∈ wr, G' b ≠ .dead → G' b' ≠ .dead → ∀ k, σ'.fp b k → σ'.fp b' k → b = b'
 Rnew : ∀ k, σ'.R k → σ.R k ∨ w.heap.size ≤ k ∨ fpOf σ G wr k
 outF : ∀ b ∈ wr, G' b ≠ .dead → ∀ k, σ'.fp b k → ¬ σ'.R k
 rlt : ∀ k, σ'.R k → k < w'.heap.size
 flt : ∀ b ∈ wr, G' b ≠ .dead → ∀ k, σ'.F b k → IsC w' k
 F : ∀ b, σ.D b → b ∉ wr → σ'.F b = σ.F b
theorem Stp.inj {σ σ' : Sg} {G G' : Nat → AB} {w w' : World} {wr : List Nat} (h : Stp σ G w wr G' σ' w') (b : Nat) (hb : b ∈ wr) (b' : Nat) (hb' : b' ∈ wr) (hd : G' b ≠ .dead) (hd' : G' b' ≠ .dead) (e : σ'.ι b = σ'.ι b') : b = b' := h.injF b hb b' hb' hd hd' _ (.inl rfl) (.inl e.symm)
theorem Stp.out {σ σ' : Sg} {G G' : Nat → AB} {w w' : World} {wr : List Nat} (h : Stp σ G w wr G' σ' w') (b : Nat) (hb : b ∈ wr) (hd : G' b ≠ .dead) : ¬ σ'.R (σ'.ι b) := h.outF b hb hd _ (.inl rfl)
/-- What a name owns that is not written stays its own. -/
theorem Stp.fp_eq {σ σ' : Sg} {G G' : Nat → AB} {w w' : World} {wr : List Nat} (h : Stp σ G w wr G' σ' w') {b : Nat} (hD : σ.D b) (hb : b ∉ wr) (k : Nat) : σ'.fp b k ↔ σ.fp b k := by
 unfold Sg.fp
 rw [(h.ext.ι b hD).2, h.F b hD hb]
theorem Stp.rel {σ σ' : Sg} {G G' : Nat → AB} {w w' : World} {wr : List Nat} (hr : RelG σ G w) (h : Stp σ G w wr G' σ' w') : RelG σ' (updG G wr G') w' where
 dom := fun b hb => by
  rw [h.D]
  unfold updG at hb
  split at hb
  ·exact .inr ‹_›
  ·exact .inl (hr.dom b hb)
 blk := fun b hb => by
  unfold updG at hb ⊢
  split at hb
  ·rename_i hm; rw [if_pos hm]; exact h.blk b hm hb
  ·rename_i hm
   rw [if_neg hm]
   have hk := hr.blk b hb
   rw [(h.ext.ι b (hr.dom b hb)).2, h.F b (hr.dom b hb) hm]
   have hn : ∀ k, σ.fp b k → ¬ fpOf σ G wr k := by
    rintro k hk ⟨b', hb', ha, e⟩
    exact hm (by rw [← hr.injF b' b ha hb k e hk]; exact hb')
   exact hk.same h.ext (h.chg.block _ (hk.lt hb) (hn _ (.inl rfl))) fun k hk' => h.chg.block _ (hr.flt b hb k hk').lt (hn _ (.inr hk'))
 injF := fun b b' hb hb' k e e' => by
  unfold updG at hb hb'
  split at hb
  ·rename_i hm
   split at hb'
   ·rename_i hm'; exact h.injF b hm b' hm' hb hb' k e e'
   ·rename_i hm'
    exfalso
    rw [h.fp_eq (hr.dom b' hb') hm'] at e'
    rcases h.locF b hm hb k e with ⟨c, hc, ha, ec⟩ | hl
    ·exact hm' (by rw [← hr.injF c b' ha hb' k ec e']; exact hc)
    ·have := hr.ltF hb' e'; omega
  ·rename_i hm
   rw [h.fp_eq (hr.dom b hb) hm] at e
   split at hb'
   ·rename_i hm'
    exfalso
    rcases h.locF b' hm' hb' k e' with ⟨c, hc, ha, ec⟩ | hl
    ·exact hm (by rw [← hr.injF c b ha hb k ec e]; exact hc)
    ·have := hr.ltF hb e; omega
   ·rename_i hm'
    rw [h.fp_eq (hr.dom b' hb') hm'] at e'
    exact hr.injF b b' hb hb' k e e'
 outF := fun b hb k hk hR => by
  unfold updG at hb
  split at hb
  ·rename_i hm; exact h.outF b hm hb k hk hR
  ·rename_i hm
   rw [h.fp_eq (hr.dom b hb) hm] at hk
   rcases h.Rnew _ hR with hR | hR | ⟨c, hc, ha, ec⟩
   ·exact hr.outF b hb k hk hR
   ·have := hr.ltF hb hk; omega
   ·exact hm (by rw [← hr.injF c b ha hb k ec hk]; exact hc)
 rlt := h.rlt
 glob := hr.glob.ext h.ext
 flt := fun b hb k hk => by
  unfold updG at hb
  split at hb
  ·rename_i hm; exact h.flt b hm hb k hk
  ·rename_i hm
   rw [h.F b (hr.dom b hb) hm] at hk
   exact (hr.flt b hb k hk).ext h.ext
/-- Two steps. -/
theorem Stp.fp2 {σ σ1 : Sg} {G G1 : Nat → AB} {w w1 : World} {wr1 wr2 : List Nat} (hr : RelG σ G w) (h1 : Stp σ G w wr1 G1 σ1 w1) {k : Nat} (h : fpOf σ1 (updG G wr1 G1) wr2 k) : fpOf σ G (wr1 ++ wr2) k ∨ w.heap.size ≤ k := by
 obtain ⟨b, hb, hd, hk⟩ := h
 unfold updG at hd
 split at hd
 ·rename_i hm
  rcases h1.locF b hm hd k hk with ⟨c, hc, ha, e⟩ | h
  ·exact .inl ⟨c, List.mem_append_left _ hc, ha, e⟩
  ·exact .inr h
 ·rename_i hm
  exact .inl ⟨b, List.mem_append_right _ hb, hd, (h1.fp_eq (hr.dom b hd) hm k).1 hk⟩
theorem Stp.trans {σ σ1 σ2 : Sg} {G G1 G2 : Nat → AB} {w w1 w2 : World} {wr1 wr2 : List Nat} (hr : RelG σ G w) (h1 : Stp σ G w wr1 G1 σ1 w1) (h2 : Stp σ1 (updG G wr1 G1) w1 wr2 G2 σ2 w2) : Stp σ G w (wr1 ++ wr2) (updG (updG G wr1 G1) wr2 G2) σ2 w2 := by
 have hr2 := h2.rel (h1.rel hr)
 exact {
  D := fun b => by rw [h2.D, h1.D, List.mem_append, or_assoc]
  ext := h1.ext.trans h2.ext
  chg := (h1.chg.mono fun k ⟨b, hb, ha, e⟩ => ⟨b, List.mem_append_left _ hb, ha, e⟩).trans h2.chg fun k hk hf => by
   rcases Stp.fp2 hr h1 hf with h | h
   ·exact h
   ·omega
  blk := fun b _ hd => hr2.blk b hd
  locF := fun b hb hd k hk => by
   unfold updG at hd
   split at hd
   ·rename_i hm
    rcases h2.locF b hm hd k hk with h | h
    ·exact Stp.fp2 hr h1 h
    ·exact .inr (Nat.le_trans h1.chg.size h)
   ·rename_i hm
    have hb1 : b ∈ wr1 := (List.mem_append.1 hb).resolve_right hm
    rw [if_pos hb1] at hd
    rw [h2.fp_eq ((h1.D b).2 (.inr hb1)) hm] at hk
    rcases h1.locF b hb1 hd k hk with ⟨c, hc, ha, e⟩ | h
    ·exact .inl ⟨c, List.mem_append_left _ hc, ha, e⟩
    ·exact .inr h
  injF := fun b _ b' _ hd hd' k e e' => hr2.injF b b' hd hd' k e e'
  Rnew := fun k hk => by
   rcases h2.Rnew k hk with h | h | h
   ·rcases h1.Rnew k h with h | h | ⟨c, hc, ha, e⟩
    ·exact .inl h
    ·exact .inr (.inl h)
    ·exact .inr (.inr ⟨c, List.mem_append_left _ hc, ha, e⟩)
   ·exact .inr (.inl (Nat.le_trans h1.chg.size h))
   ·rcases Stp.fp2 hr h1 h with h | h
    ·exact .inr (.inr h)
    ·exact .inr (.inl h)
  outF := fun b _ hd => hr2.outF b hd
  rlt := hr2.rlt
  flt := fun b _ hd => hr2.flt b hd
  F := fun b hD hb => by
   rw [List.mem_append, not_or] at hb
   exact (h2.F b ((h1.D b).2 (.inl hD)) hb.2).trans (h1.F b hD hb.1) }
theorem Stp.congr {σ σ' : Sg} {G G' G2 : Nat → AB} {w w' : World} {wr : List Nat} (h : Stp σ G w wr G' σ' w') (hg : ∀ b ∈ wr, G' b = G2 b) : Stp σ G w wr G2 σ' w' where
 D := h.D
 ext := h.ext
 chg := h.chg
 blk := fun b hb hd => by rw [← hg b hb] at hd ⊢; exact h.blk b hb hd
 locF := fun b hb hd => by rw [← hg b hb] at hd; exact h.locF b hb hd
 injF := fun b hb b' hb' hd hd' => by rw [← hg b hb] at hd; rw [← hg b' hb'] at hd'; exact h.injF b hb b' hb' hd hd'
 Rnew := h.Rnew
 outF := fun b hb hd => by rw [← hg b hb] at hd; exact h.outF b hb hd
 rlt := h.rlt
 flt := fun b hb hd => by rw [← hg b hb] at hd; exact h.flt b hb hd
 F := h.F
/-- Blocks that are given up, to be read for ever. -/
def fR (σ : Sg) (G : Nat → AB) (l : List Nat) : Nat → Prop := fun k => σ.R k ∨ ∃ b ∈ l, G b ≠ .dead ∧ σ.fp b k
def fS (σ : Sg) (G : Nat → AB) (l : List Nat) : Sg := ⟨σ.ι, σ.D, fR σ G l, σ.F⟩
def fSD (σ : Sg) (G : Nat → AB) (l : List Nat) : Sg := ⟨σ.ι, fun b => σ.D b ∨ b ∈ l, fR σ G l, σ.F⟩
theorem fS_ext {σ : Sg} {G : Nat → AB} {l : List Nat} {w : World} : Ext σ w (fS σ G l) w := ⟨fun _ h => ⟨h, rfl⟩, fun _ h => .inl h, fun _ _ _ => rfl, fun k c e fr h => ⟨c, fr, h, rfl⟩⟩
theorem fSD_ext {σ : Sg} {G : Nat → AB} {l : List Nat} {w : World} : Ext (fS σ G l) w (fSD σ G l) w := ⟨fun _ h => ⟨.inl h, rfl⟩, fun _ h => h, fun _ _ _ => rfl, fun k c e fr h => ⟨c, fr, h, rfl⟩⟩
theorem Stp.frz {σ : Sg} {G G' : Nat → AB} {w : World} {l : List Nat} (hr : RelG σ G w) (hd : ∀ b ∈ l, G' b = .dead) : Stp σ G w l G' (fSD σ G l) w where
 D := fun b => Iff.rfl
 ext := ⟨fun _ h => ⟨.inl h, rfl⟩, fun _ h => .inl h, fun _ _ _ => rfl, fun k c e fr h => ⟨c, fr, h, rfl⟩⟩
 chg := Chg.refl _ _
 blk := fun b hb hn => absurd (hd b hb) hn
 locF := fun b hb hn => absurd (hd b hb) hn
 injF := fun b hb _ _ hn => absurd (hd b hb) hn
 Rnew := fun k hk => by
  rcases hk with h | ⟨b, hb, ha, e⟩
  ·exact .inl h
  ·exact .inr (.inr ⟨b, hb, ha, e⟩)
 outF := fun b hb hn => absurd (hd b hb) hn
 rlt := fun k hk => by
  rcases hk with h | ⟨b, hb, ha, hk⟩
  ·exact hr.rlt k h
  ·exact hr.ltF ha hk
 flt := fun b hb hn => absurd (hd b hb) hn
 F := fun _ _ _ => rfl
/-- Nothing was written; something may have been made, and may be read. -/
theorem Stp.quiet {σ σ' : Sg} {G : Nat → AB} {w w' : World} (hD : ∀ b, σ'.D b ↔ σ.D b) (hι : σ'.ι = σ.ι) (hF : σ'.F = σ.F) (hR : ∀ k, σ.R k → σ'.R k) (hb : Below w.heap.size w w') (hn : ∀ k, σ'.R k → σ.R k ∨ w.heap.size ≤ k) (hlt : ∀ k, σ'.R k → k < w'.heap.size) : Stp σ G w [] G σ' w' where
 D := fun b => by rw [hD]; simp
 ext := ⟨fun k hk => ⟨(hD k).2 hk, by rw [hι]⟩, hR, fun k _ hk => hb.block k hk, fun k c e fr hk => ⟨c, fr, by rw [hb.block k (Array.getElem?_eq_some_iff.1 hk).1]; exact hk, rfl⟩⟩
 chg := (Chg.of_below hb).mono fun _ h => h.elim
 blk := fun b hm => by cases hm
 locF := fun b hm => by cases hm
 injF := fun b hm => by cases hm
 Rnew := fun k hk => (hn k hk).imp id .inl
 outF := fun b hm => by cases hm
 rlt := hlt
 flt := fun b hm => by cases hm
 F := fun b _ _ => by rw [hF]
theorem Stp.none {σ : Sg} {G : Nat → AB} {w : World} (hr : RelG σ G w) : Stp σ G w [] G σ w := .quiet (fun _ => Iff.rfl) rfl rfl (fun _ h => h) (Below.refl _ _) (fun _ h => .inl h) hr.rlt
end Go.Proofs.YtkonkblfckhcbaaGreatDoor
namespace Go.Proofs.YtkonkblfckhcbaaGreatDoor
open Go.ChangeShapes Go.WideShapes Go.ChangeAt Go.RowKit
set_option maxRecDepth 100000
theorem ascii_cell {W : World} (h : laidMetH Tryz.prog [("unicode.White_Space", Rows.laid_unicode_White_Space), ("strings.asciiSpace", Rows.laid_strings_asciiSpace)] W) (r : Nat) (hr : r < 256) : W.cell? ⟨0, r, none⟩ = some (.int .u8 (globL1.getD r 0)) := by
 rw [MakeChecks.laidMetH_plain _ _ _ (by kernel_rfl)] at h
 obtain ⟨ps, ⟨_, _, _, _, _, _, _, _, _, _, ⟨g, t, cs, fuel, p, q, hg, ht, hv, hd, _, _⟩, _⟩, _, _⟩ := h
 obtain rfl := Option.some.inj ((show Tryz.prog.globalNamed "strings.asciiSpace" = some 0 by kernel_rfl).symm.trans hg)
 obtain rfl := Option.some.inj ((show (Tryz.prog.globals[0]?).map (·.type) = some 290 by kernel_rfl).symm.trans ht)
 obtain ⟨xs, m, _, ex, _, hl, hel⟩ := DataW.trod_array Tryz.underlying290 hd
 have c5 : Tryz.prog.cellsOf 5 = 1 := by kernel_rfl
 have hE := hel r hr
 rw [c5, Nat.mul_one, List.getElem?_eq_getElem (by omega)] at hE
 obtain ⟨z, e1, e2, _⟩ := DataW.trod_int Tryz.underlying5 hE
 have hlen : globL1.length = 256 := by kernel_rfl
 have e3 : (xs.map (·.1)) = globL1.map fun n => .lit (.int .u8 n) := (DataW.agg.inj (Prod.mk.inj ex).1).symm
 have e4 : (xs.map (·.1))[r]? = (globL1.map fun n => (DataW.lit (.int .u8 n) : DataW Unit))[r]? := by rw [e3]
 rw [List.getElem?_map, List.getElem?_map, List.getElem?_eq_getElem (by omega : r < xs.length), List.getElem?_eq_getElem (by omega : r < globL1.length), e2] at e4
 have hz : z = globL1.getD r 0 := by
  simp only [Option.map_some, Option.some.injEq, DataW.lit.injEq, Lit.int.injEq, true_and] at e4
  rw [e4, List.getD, List.getElem?_eq_getElem (by omega : r < globL1.length)]; rfl
 rw [World.var?_cell hg hv r, ← hz]
 have : cs.toList[r]? = some (.int .u8 z) := by
  have h0 : ((cs.toList.drop r).take 1)[0]? = some (.int .u8 z) := by rw [e1]; rfl
  simpa using h0
 simpa using this
theorem ascii_bound : (globL1.all fun n => decide (0 ≤ n) && decide (n ≤ 255)) = true := by kernel_rfl
theorem glob_of_laid {W : World} (h : laidMetH Tryz.prog [("unicode.White_Space", Rows.laid_unicode_White_Space), ("strings.asciiSpace", Rows.laid_strings_asciiSpace)] W) : GlobOk (· < W.heap.size) W := fun g k xs hg => by
 have hlen : globL1.length = 256 := by kernel_rfl
 have h1 : g = 0 ∧ k = .u8 ∧ xs = globL1 := by
  unfold globsRaw globOf at hg
  split at hg
  ·rename_i he
   injection hg with hg
   injection hg with h1 h2
   exact ⟨(Nat.eq_of_beq_eq_true he).symm, h1.symm, h2.symm⟩
  ·cases hg
 obtain ⟨rfl, rfl, rfl⟩ := h1
 have hb : 0 < W.heap.size := by
  have := ascii_cell h 0 (by omega)
  unfold World.cell? at this
  cases hq : W.heap[0]? with
  | none => simp [hq] at this
  | some o => exact (Array.getElem?_eq_some_iff.1 hq).1
 refine ⟨_, _, rfl, Nat.le_refl _, by rw [hlen]; omega, fun h => (by cases h), rfl, by rw [hlen]; omega, fun _ => ⟨_, rfl, hb, hb, fun i x hi => ⟨[.int .u8 x], ⟨rfl, ?_⟩, fun j u hj => ?_⟩⟩⟩
 ·have hm := List.all_eq_true.1 ascii_bound x (List.mem_of_getElem? hi)
  simp at hm
  simp [inR, IntKind.min, IntKind.max, IntKind.signed, IntKind.bits]
  omega
 ·have hil := (List.getElem?_eq_some_iff.1 hi).1
  cases j with
  | zero =>
   simp at hj
   subst hj
   have e : (⟨0, 0, none⟩ : Addr).add (i * 1 + 0) = ⟨0, i, none⟩ := by
    unfold Addr.add
    split
    ·rename_i h0
     have : i = 0 := by omega
     subst this; rfl
    ·simp
   have := ascii_cell h i (by omega)
   rw [List.getD, hi] at this
   rw [show (Ty.int IntKind.u8).rd.sz = 1 from rfl, e]
   exact this
  | succ j => simp at hj
end Go.Proofs.YtkonkblfckhcbaaGreatDoor
namespace Go.Proofs.YtkonkblfckhcbaaGreatDoor
set_option linter.unusedVariables false
set_option linter.unusedSimpArgs false
open Go.RowKit

def LeA (a b : AV) : Prop := ∀ σ w v, CA σ w a v → CA σ w b v
/-- What a function of read-only arguments tells. -/
def CallTo (P : Program) (f : Nat) (args : Array Value) (w : World) (N : Value → World → Prop) : Prop :=
  ((callFunc f args).run P w = .ok (.enter f args) w ∧ Calls P f args w fun e w' => ∃ v, e = .returned v ∧ N v w') ∨ ∃ v w', (callFunc f args).run P w = .ok (.value v) w' ∧ N v w'
def AFun (P : Program) (f : Nat) (args : List AV) (r : AV) : Prop :=
  ∀ (R : Nat → Prop) (w : World) (vs : List Value), (∀ k, R k → k < w.heap.size) → GlobOk R w → All2 (CA ⟨id, fun _ => False, R, fun _ _ => False⟩ w) args vs →
    CallTo P f vs.toArray w fun v w' => Below w.heap.size w w' ∧ CA ⟨id, fun _ => False, fun k => R k ∨ (w.heap.size ≤ k ∧ k < w'.heap.size), fun _ _ => False⟩ w' r v
def gv (H : List AB) (b : Nat) : AB := nrm (H.getD b .dead)
theorem gv_some {H : List AB} {b : Nat} {ab : AB} (h : H[b]? = some ab) : gv H b = nrm ab := by simp [gv, List.getD_eq_getElem?_getD, h]
theorem gv_of {H : List AB} {b : Nat} {ab : AB} (h : H[b]? = some ab) (hn : nrm ab = ab := by rfl) : gv H b = ab := (gv_some h).trans hn
theorem gv_ovec {H : List AB} {b : Nat} {e : TypeId} {t : Ty} {xs : List t.El} (h : H[b]? = some (.ovec e t xs)) (hx : xs ≠ []) : gv H b = .vec e t xs := (gv_some h).trans (nrm_ovec hx)
theorem gv_nest {H : List AB} {b : Nat} {e : TypeId} {s : Sk} {xs : List s.ty.El} {ko : Option (Nat × Nat)} {hi : Nat} {hs : List (Nat × CV)} (h : H[b]? = some (.nest e s xs ko hi hs)) (hx : xs ≠ []) : gv H b = .nest e s xs ko hi hs := (gv_some h).trans (nrm_nest hx)
theorem gv_none {H : List AB} {b : Nat} (h : H[b]? = none) : gv H b = .dead := by simp [gv, List.getD_eq_getElem?_getD, h, nrm]
/-- What a function tells, and what it does to memory of its caller's. -/
structure AFunH (P : Program) (f : Nat) (args : List AV) (H : List AB) (r : AV) (H' : List AB) (wr : List Nat) : Prop where
  len : H.length ≤ H'.length
  lt : ∀ b ∈ wr, b < H'.length
  off : ∀ b, b ∉ wr → gv H' b = gv H b
  act : ∀ (σ : Sg) (w : World) (vs : List Value), RelG σ (gv H) w → (∀ b ∈ wr, H.length ≤ b → ¬ σ.D b) → All2 (CA σ w) args vs →
    CallTo P f vs.toArray w fun v w' => ∃ σ', Stp σ (gv H) w wr (gv H') σ' w' ∧ CA σ' w' r v

section
variable (P : Program) (S : List Item → List AV → List AB → Prop) (Q : AV → List AB → Prop)
def Good : Tree → Prop
  | .ret v H => Q v H
  | .ite b t e => (b = true → Good t) ∧ (b = false → Good e)
  | .need p t => p ∧ Good t
  | .call f args fz r t => (∃ args', All2 LeA args args' ∧ AFun P f args' r) ∧ (fz = true → r.flat = true) ∧ Good t
  | .callH f args H r H' wr t => AFunH P f args H r H' wr ∧ Good t
  | .stop todo env H => S todo env H
  | .fail _ => False
end

/-! ### operations -/
def OpTo (P : Program) (o : Oper) (a : Act) (w : World) (N : Value → World → Prop) : Prop :=
  ∀ (next : Act → World → Prop) (Qx : Exit → Act → World → Prop), (∀ v w', N v w' → next (a.put o.dst v) w') → o.wp P a w next Qx
section
variable {P : Program} {o : Oper} {a : Act} {w w' : World} {N : Value → World → Prop}
theorem OpTo.value {v : Value} (h : (execOp a.eval o).run P w = .ok (.value v) w') (hN : N v w') : OpTo P o a w N := fun next Qx hk => by
  unfold Oper.wp; rw [h]; exact hk v w' hN
theorem OpTo.skip (h : (execOp a.eval o).run P w = .ok .skip w') (hN : N undef w') : OpTo P o a w N := fun next Qx hk => by
  unfold Oper.wp; rw [h]; exact hk _ w' hN
theorem OpTo.enter {f : FuncId} {args : Array Value} (h : (execOp a.eval o).run P w = .ok (.enter f args) w') (hc : Calls P f args w' fun e w'' => ∃ v, e = .returned v ∧ N v w'') : OpTo P o a w N := fun next Qx hk => by
  unfold Oper.wp
  rw [h, Oper.upon_enter]
  exact Calls.mono hc (fun e w'' ⟨v, he, hN⟩ => by subst he; exact hk v w'' hN)
theorem OpTo.mono {N' : Value → World → Prop} (h : OpTo P o a w N) (hn : ∀ v w', N v w' → N' v w') : OpTo P o a w N' := fun next Qx hk => h next Qx fun v w' h => hk v w' (hn v w' h)
end

/-- What an operation does, wherever what it looks at is as it was. -/
structure Acts (P : Program) (o : Oper) (env : List AV) (H : List AB) (v : AV) (H' : List AB) (rd wr : List Nat) : Prop where
  len : H.length ≤ H'.length
  lt : ∀ b ∈ wr, b < H'.length
  off : ∀ b, b ∉ wr → gv H' b = gv H b
  act : ∀ (σ : Sg) (G : Nat → AB) (a : Act) (w : World), (∀ x ∈ o.op.operands, CA σ w (ev env x) (a.eval x)) → (∀ b, b ∈ rd ∨ b ∈ wr → G b = gv H b) → (∀ b ∈ wr, H.length ≤ b → ¬ σ.D b) → RelG σ G w →
    OpTo P o a w fun x w' => ∃ σ', Stp σ G w wr (gv H') σ' w' ∧ CA σ' w' v x

section
variable {P : Program} {o : Oper} {env : List AV} {H : List AB}
/-- An operation that leaves the world alone. -/
theorem Acts.pure {v : AV} {rd : List Nat} (h : ∀ (σ : Sg) (G : Nat → AB) (a : Act) (w : World), (∀ x ∈ o.op.operands, CA σ w (ev env x) (a.eval x)) → (∀ b, b ∈ rd → G b = gv H b) → RelG σ G w → ∃ x, (execOp a.eval o).run P w = .ok (.value x) w ∧ CA σ w v x) : Acts P o env H v H rd [] where
  len := Nat.le_refl _
  lt := fun b hb => by cases hb
  off := fun b _ => rfl
  act := fun σ G a w hx hg hd hr => by
    obtain ⟨x, h1, h2⟩ := h σ G a w hx (fun b hb => hg b (.inl hb)) hr
    refine .value h1 ⟨σ, ?_, h2⟩
    exact ⟨(fun b => by simp), Ext.refl _ _, Chg.refl _ _, fun b hb => (by cases hb), fun b hb => (by cases hb), fun b hb => (by cases hb), fun k h => .inl h, fun b hb => (by cases hb), hr.rlt, fun b hb => (by cases hb), fun _ _ _ => rfl⟩
/-- A new block. -/
theorem Stp.allocO {σ : Sg} {G G' : Nat → AB} {w w' : World} {m : Nat} {ob : Obj} (hr : RelG σ G w) (hm : ¬ σ.D m) (hw : w'.heap = w.heap.push ob) (hos : w'.os = w.os ∧ w'.tape = w.tape ∧ w'.output = w.output) (hB : ∀ σ', Ext σ w σ' w' → Blk σ' w' w.heap.size (fun _ => False) (G' m)) :
    ∃ σ', Stp σ G w [m] G' σ' w' ∧ σ'.ι m = w.heap.size ∧ σ'.D m := by
  have hold : ∀ k, k < w.heap.size → w'.heap[k]? = w.heap[k]? := fun k hk => by rw [hw, Array.getElem?_push, if_neg (by omega)]
  have hsz : w'.heap.size = w.heap.size + 1 := by rw [hw]; simp
  have hx : Ext σ w ⟨fun k => if k = m then w.heap.size else σ.ι k, fun k => σ.D k ∨ k = m, σ.R, fun b k => if b = m then False else σ.F b k⟩ w' :=
    ⟨fun k hk => ⟨.inl hk, by simp only; rw [if_neg (by rintro rfl; exact hm hk)]⟩, fun _ h => h, fun k hk hlt => hold k hlt, fun k c e' fr hk => ⟨c, fr, by rw [hold k (Array.getElem?_eq_some_iff.1 hk).1]; exact hk, rfl⟩⟩
  refine ⟨_, ⟨?_, hx, ?_, ?_, ?_, ?_, ?_, ?_, ?_, ?_, ?_⟩, ?_, ?_⟩
  · intro b; simp
  · exact ⟨hos.1, hos.2.1, hos.2.2, by omega, fun k hk _ => hold k hk⟩
  · intro b hb _
    obtain rfl : b = m := by simpa using hb
    have := hB _ hx
    simpa using this
  · intro b hb _ k hk
    obtain rfl : b = m := by simpa using hb
    right
    rcases hk with hk | hk
    · rw [← hk]; simp
    · simp at hk
  · intro b hb b' hb' _ _ _ _ _
    obtain rfl : b = m := by simpa using hb
    obtain rfl : b' = b := by simpa using hb'
    rfl
  · exact fun k h => .inl h
  · intro b hb _ k hk hR
    obtain rfl : b = m := by simpa using hb
    have := hr.rlt _ hR
    rcases hk with hk | hk
    · rw [← hk] at this; simp at this
    · simp at hk
  · intro k hk
    have := hr.rlt k hk
    omega
  · intro b hb _ k hk
    obtain rfl : b = m := by simpa using hb
    simp at hk
  · intro b _ hb
    have hb : b ≠ m := by simpa using hb
    funext k
    exact if_neg hb
  · simp
  · simp
theorem Stp.allocW {σ : Sg} {G G' : Nat → AB} {w w' : World} {m : Nat} {e : TypeId} {vs : Array Value} (hr : RelG σ G w) (hm : ¬ σ.D m) (hw : w'.heap = w.heap.push (.cells vs e)) (hos : w'.os = w.os ∧ w'.tape = w.tape ∧ w'.output = w.output) (hB : ∀ σ', Ext σ w σ' w' → Blk σ' w' w.heap.size (fun _ => False) (G' m)) :
    ∃ σ', Stp σ G w [m] G' σ' w' ∧ σ'.ι m = w.heap.size ∧ σ'.D m := Stp.allocO hr hm hw hos hB
theorem Stp.alloc {σ : Sg} {G G' : Nat → AB} {w : World} {m : Nat} {e : TypeId} {vs : Array Value} (hr : RelG σ G w) (hm : ¬ σ.D m) (hB : ∀ σ', Ext σ w σ' (w.alloc (.cells vs e)) → Blk σ' (w.alloc (.cells vs e)) w.heap.size (fun _ => False) (G' m)) :
    ∃ σ', Stp σ G w [m] G' σ' (w.alloc (.cells vs e)) ∧ σ'.ι m = w.heap.size ∧ σ'.D m := Stp.allocW hr hm rfl ⟨rfl, rfl, rfl⟩ hB
theorem gv_push_new (ab : AB) : gv (H ++ [ab]) H.length = nrm ab := by simp [gv]
theorem gv_push_off (ab : AB) {b : Nat} (hb : b ∉ [H.length]) : gv (H ++ [ab]) b = gv H b := by
  have hb : b ≠ H.length := by simpa using hb
  unfold gv
  rw [List.getD_eq_getElem?_getD, List.getD_eq_getElem?_getD]
  rcases Nat.lt_or_ge b H.length with h | h
  · rw [List.getElem?_append_left h]
  · rw [List.getElem?_eq_none (by simp; omega), List.getElem?_eq_none h]
theorem Acts.allocB {e : TypeId} {ab : AB} {v : AV} (h : ∀ (σ : Sg) (a : Act) (w : World), (∀ x ∈ o.op.operands, CA σ w (ev env x) (a.eval x)) → ∃ vs x, (execOp a.eval o).run P w = .ok (.value x) (w.alloc (.cells vs e)) ∧
    (∀ σ', Ext σ w σ' (w.alloc (.cells vs e)) → Blk σ' (w.alloc (.cells vs e)) w.heap.size (fun _ => False) ab) ∧
    ∀ (σ' : Sg), Ext σ w σ' (w.alloc (.cells vs e)) → σ'.ι H.length = w.heap.size → σ'.D H.length → CA σ' (w.alloc (.cells vs e)) v x) : Acts P o env H v (H ++ [ab]) [] [H.length] where
  len := by simp
  lt := fun b hb => by simp at hb; simp [hb]
  off := fun b hb => gv_push_off _ hb
  act := fun σ G a w hx hg hd hr => by
    obtain ⟨vs, x, h1, h2, h3⟩ := h σ a w hx
    obtain ⟨σ', s, i1, i2⟩ := Stp.alloc (e := e) (vs := vs) (G' := gv (H ++ [ab])) hr (hd H.length (by simp) (Nat.le_refl _)) (by rw [gv_push_new]; exact fun σ' hx => (h2 σ' hx).nrm)
    exact .value h1 ⟨σ', s, h3 σ' s.ext i1 i2⟩
theorem Acts.alloc {e : TypeId} {cs : List CV} {v : AV} (h : ∀ (σ : Sg) (a : Act) (w : World), (∀ x ∈ o.op.operands, CA σ w (ev env x) (a.eval x)) → ∃ vs x, (execOp a.eval o).run P w = .ok (.value x) (w.alloc (.cells vs e)) ∧ CCs σ w cs vs.toList ∧
    ∀ (σ' : Sg), Ext σ w σ' (w.alloc (.cells vs e)) → σ'.ι H.length = w.heap.size → σ'.D H.length → CA σ' (w.alloc (.cells vs e)) v x) : Acts P o env H v (H ++ [.cells e cs]) [] [H.length] := .allocB fun σ a w hx => by
  obtain ⟨vs, x, h1, h2, h3⟩ := h σ a w hx
  exact ⟨vs, x, h1, fun σ' hx' => ⟨vs, heap_alloc_new _ _, h2.ext hx'⟩, h3⟩
end

/-! ### constants, operands -/
theorem constC_ok {σ : Sg} {w : World} {v : Value} {c : CV} (h : constC v = some c) : CC σ w c v := by
  unfold constC at h
  split at h <;> first
    | (split at h
       · injection h with h; subst h; exact ⟨rfl, by assumption⟩
       · cases h)
    | (injection h with h; subst h; exact rfl)
    | cases h
theorem constCs_ok {σ : Sg} {w : World} : ∀ {vs : List Value} {cs : List CV}, constCs vs = some cs → CCs σ w cs vs := by
  intro vs
  induction vs with
  | nil => intro cs h; injection h with h; subst h; exact .nil
  | cons v r ih =>
    intro cs h
    unfold constCs at h
    split at h
    · rename_i c cs' h1 h2
      injection h with h; subst h
      exact .cons (constC_ok h1) (ih h2)
    · cases h
theorem constV_ok {σ : Sg} {w : World} (v : Value) : CA σ w (constV v) v := by
  unfold constV
  split
  · split
    · rename_i l h; exact ⟨_, rfl, constCs_ok h⟩
    · trivial
  · split
    · rename_i c h; exact constC_ok h
    · trivial
/-- The frame. -/
def EnvR (σ : Sg) (w : World) (env : List AV) (tm : Array Value) : Prop := env.length = tm.size ∧ ∀ t, CA σ w (env.getD t .junk) (tm.getD t undef)
theorem glob_ok {σ : Sg} {w : World} {env : List AV} (hg : GlobOk σ.R w) (g : Nat) : CA σ w (ev env (.global g)) (.pointer (some ⟨g, 0, none⟩)) := by
  show CA σ w (match globOf globsRaw g with
    | some (k, xs) => if xs.isEmpty then AV.junk else AV.c (.pro (.int k) xs 0 0)
    | none => .junk) _
  split
  · rename_i k xs hq
    by_cases he : xs.isEmpty = true
    · rw [if_pos he]; trivial
    · rw [if_neg he]
      have hp : 0 < xs.length := by
        rcases Nat.eq_zero_or_pos xs.length with h | h
        · exact absurd (by simp [List.eq_nil_of_length_eq_zero h]) he
        · exact h
      exact ⟨⟨g, 0, none⟩, _, hg g k xs hq, hp, by simp⟩
  · trivial
theorem ev_ok {σ : Sg} {w : World} {env : List AV} {a : Act} (hg : GlobOk σ.R w) (h : EnvR σ w env a.tmps) (x : Operand) : CA σ w (ev env x) (a.eval x) := by
  cases x with
  | tmp t => exact h.2 t
  | const v => exact constV_ok v
  | global g => exact glob_ok hg g
  | func f => exact rfl

/-! ### type facts -/
section
variable {P : Program} {w : World}
theorem run_underlying_of {t : TypeId} {d : TypeDesc} (h : P.underlying t = some d) : (underlying t).run P w = .ok d w := by
  unfold underlying
  simp [h]
theorem run_typeInfo_of {t : TypeId} {i : TypeInfo} (h : P.info? t = some i) : (typeInfo t).run P w = .ok i w := by
  unfold typeInfo
  simp [h]
theorem run_sizeOf_of {t : TypeId} {n : Nat} (h : szT P t = some n) : (sizeOf t).run P w = .ok n w := by
  unfold szT at h
  obtain ⟨i, hi, rfl⟩ := Option.map_eq_some_iff.1 h
  unfold sizeOf
  simp [run_typeInfo_of hi]
theorem run_isAgg_of {t : TypeId} {b : Bool} (h : isAggB P t = some b) : (isAgg t).run P w = .ok b w := by
  unfold isAggB at h
  unfold isAgg
  cases hu : P.underlying t with
  | none => rw [hu] at h; cases h
  | some d =>
    rw [hu] at h
    simp only [Sem.run_bind, run_underlying_of hu, Result.andThen_ok]
    cases d <;> simp at h <;> subst h <;> rfl
theorem run_zeroValue_of {t : TypeId} {z : Value} (h : (P.info? t).bind (·.zero) = some z) : (zeroValue t).run P w = .ok z w := by
  obtain ⟨i, hi, hz⟩ := Option.bind_eq_some_iff.1 h
  unfold zeroValue
  simp [run_typeInfo_of hi, hz]
theorem zeroCs_ok {σ : Sg} {t : TypeId} {cs : List CV} (h : zeroCs P t = some cs) : ∃ z, (P.info? t).bind (·.zero) = some z ∧ CCs σ w cs z.cells.toList := by
  unfold zeroCs at h
  split at h
  · rename_i z hz; exact ⟨z, hz, constCs_ok h⟩
  · cases h
/-- A value of a type, by its cells. -/
theorem asT_ok {σ : Sg} {t : TypeId} {cs : List CV} {v : AV} {vs : List Value} (h : asT P t cs = some v) (hc : CCs σ w cs vs) :
    (isAggB P t = some true ∧ CA σ w v (.agg vs.toArray)) ∨ (isAggB P t = some false ∧ ∃ u, vs = [u] ∧ CA σ w v u) := by
  unfold asT at h
  split at h
  · rename_i hb
    injection h with h; subst h
    exact .inl ⟨hb, _, rfl, by simpa using hc⟩
  · rename_i c hb
    injection h with h; subst h
    obtain ⟨u, rfl, hu⟩ := hc.one
    exact .inr ⟨hb, u, rfl, hu⟩
  · cases h
theorem add_eq {a : Addr} (h : a.spot = none) (n : Nat) : a.add n = ⟨a.block, a.off + n, none⟩ := by
  unfold Addr.add
  split
  · rename_i h0; subst h0; obtain ⟨b, o, s⟩ := a; simp at h; simp [h]
  · rfl
/-- The cells at a place, read as a type. -/
theorem run_loadVar_of {σ : Sg} {t : TypeId} {n : Nat} {a : Addr} {cs : List CV} {v : AV} {vs : List Value} (hn : szT P t = some n) (h : asT P t cs = some v) (hc : CCs σ w cs vs) (hl : vs.length = n) (hs : a.spot = none)
    (hw : ∀ j u, vs[j]? = some u → w.cell? ⟨a.block, a.off + j, none⟩ = some u) : ∃ x, (loadVar t a).run P w = .ok x w ∧ CA σ w v x := by
  unfold loadVar
  rcases asT_ok h hc with ⟨hb, hv⟩ | ⟨hb, u, rfl, hv⟩
  · refine ⟨_, ?_, hv⟩
    have := run_loadCells_list (P := P) (w := w) a vs (fun j u hj => by rw [add_eq hs]; exact hw j u hj)
    simp only [Sem.run_bind, run_isAgg_of hb, Result.andThen_ok, if_true, run_sizeOf_of hn]
    rw [← hl, this]
    simp
  · refine ⟨u, ?_, hv⟩
    have h0 := hw 0 u rfl
    have e : a = ⟨a.block, a.off + 0, none⟩ := by obtain ⟨b, o, s⟩ := a; simp at hs; simp [hs]
    simp only [Sem.run_bind, run_isAgg_of hb, Result.andThen_ok]
    rw [e]
    simp only [Nat.add_zero] at h0 ⊢
    simp [h0]
end
end Go.Proofs.YtkonkblfckhcbaaGreatDoor
namespace Go.Proofs.YtkonkblfckhcbaaGreatDoor
set_option linter.unusedVariables false
set_option linter.unusedSimpArgs false
open Go.RowKit

section
variable {P : Program} {w : World} {σ : Sg} {G : Nat → AB}
theorem cell_row {b : Nat} {c : Array Value} {e : TypeId} {fr : Nat × Nat} (h : w.heap[b]? = some (.cells c e fr)) (o : Nat) : w.cell? ⟨b, o, none⟩ = c.toList[o]? := by
 rw [cell_of_row w b o c e fr h]; simp
theorem Ty.sz_pos (t : Ty) : 0 < t.sz := by induction t <;> simp [Ty.sz] <;> omega
theorem cell_spot {a : Addr} {u : Value} (h : w.cell? a = some u) : a.spot = none := by
 unfold World.cell? at h
 split at h
 ·split at h
  ·cases h
  ·rename_i hs; simpa using hs
 ·cases h
theorem cell_add {a : Addr} {n : Nat} {u : Value} (h : w.cell? (a.add n) = some u) : w.cell? ⟨a.block, a.off + n, none⟩ = some u := by
 by_cases h0 : n = 0
 ·subst h0
  have e : a.add 0 = a := by simp [Addr.add]
  rw [e] at h
  have := cell_spot h
  obtain ⟨b, o, s⟩ := a
  simp at this
  subst this
  simpa using h
 ·have e : a.add n = ⟨a.block, a.off + n, none⟩ := by simp [Addr.add, h0]
  rwa [e] at h
/-- The cells of an element of a slice that is read. -/
theorem slice_elem {e : Ty} {R : Nat → Prop} {xs : List e.El} {A : Option Addr} {n cap : Nat} (h : (Rd.slice e.rd).K R w xs [.slice A n cap]) {i : Nat} (hi : i < xs.length) :
  ∃ ad cs, A = some ad ∧ n = xs.length ∧ e.rd.K R w (xs.getD i e.dflt) cs ∧ cs.length = e.sz ∧ (∀ j u, cs[j]? = some u → w.cell? ⟨ad.block, ad.off + (i * e.sz + j), none⟩ = some u) ∧ (i = 0 → ad.spot = none) := by
 obtain ⟨A', c', hv, hl, hm, hn, hC⟩ := h
 injection hv with hv
 injection hv with h1 h2 h3
 subst h1; subst h2; subst h3
 obtain ⟨ad, cs, rfl, _, _, hk, hc⟩ := hC.at_ i xs[i] (List.getElem?_eq_getElem hi)
 have hlen := e.rd.len hk
 rw [e.rd_sz] at hlen hc
 have hg : xs.getD i e.dflt = xs[i] := by simp [List.getD_eq_getElem?_getD, List.getElem?_eq_getElem hi]
 refine ⟨ad, cs, rfl, rfl, by rw [hg]; exact hk, hlen, fun j u hj => cell_add (hc j u hj), fun h0 => ?_⟩
 subst h0
 have hp : 0 < cs.length := by rw [hlen]; exact e.sz_pos
 have := hc 0 cs[0] (List.getElem?_eq_getElem hp)
 simp at this
 have e0 : ad.add 0 = ad := by simp [Addr.add]
 rw [e0] at this
 exact cell_spot this
end

section
variable {P : Program} {S : List Item → List AV → List AB → Prop} {Q : AV → List AB → Prop} {o : Oper} {env : List AV} {H : List AB} {K : Kont}

theorem run_op_value {x : Value} {w w' : World} {s : Sem Value} (h : s.run P w = .ok x w') : (do pure (Next.value (← s)) : Sem Next).run P w = .ok (.value x) w' := by
 simp [h]

theorem ok_move {x : Operand} (ho : o.op = .move x ∨ o.op = .assign x) : Acts P o env H (ev env x) H [] [] := .pure fun σ G a w hx hg hr => by
 have hm : x ∈ o.op.operands := by rcases ho with ho | ho <;> rw [ho] <;> simp [Op.operands]
 exact ⟨_, by rcases ho with ho | ho <;> simp [execOp, ho], hx x hm⟩

theorem encFrom_ok {σ : Sg} {w : World} {t : Ty} {xs : List t.El} {vs : List Value} (hl : xs.length * t.sz ≤ vs.length) (h : ∀ (i : Nat) (x : t.El), xs[i]? = some x → t.rd.K σ.R w x ((vs.drop (i * t.sz)).take t.sz)) : ∀ (k i : Nat), i + k ≤ xs.length → CCs σ w (encFrom t xs i k) ((vs.drop (i * t.sz)).take (k * t.sz))
 | 0, i, _ => by simpa [encFrom] using (All2.nil : CCs σ w [] [])
 | k + 1, i, hk => by
  have hi : i < xs.length := by omega
  have hgd : xs.getD i t.dflt = xs[i] := by simp [List.getD_eq_getElem?_getD, List.getElem?_eq_getElem hi]
  have h1 := rd_enc (σ := σ) t (h i xs[i] (List.getElem?_eq_getElem hi))
  have h2 := encFrom_ok hl h k (i + 1) (by omega)
  have e : (vs.drop (i * t.sz)).take ((k + 1) * t.sz) = (vs.drop (i * t.sz)).take t.sz ++ (vs.drop ((i + 1) * t.sz)).take (k * t.sz) := by
   rw [Nat.succ_mul k, Nat.add_comm (k * t.sz), List.take_add, List.drop_drop, Nat.succ_mul]
  rw [e]
  unfold encFrom
  rw [hgd]
  exact All2.app h1 h2
theorem load_ok {t : TypeId} {p : AV} (hG : Good P S Q (aLoad P t p H K)) : ∃ v rd, Good P S Q (K v H rd []) ∧ ∀ (σ : Sg) (G : Nat → AB) (w : World) (x : Value), CA σ w p x → (∀ b, b ∈ rd → G b = gv H b) → RelG σ G w → ∃ ad y, x = .pointer (some ad) ∧ (loadVar t ad).run P w = .ok y w ∧ CA σ w v y := by
 unfold aLoad at hG
 split at hG
 ·exact hG.elim
 ·rename_i n hn
  split at hG
  ·rename_i b s i j
   unfold readB at hG
   split at hG
   ·rename_i e cs hb
    split at hG
    ·rename_i hl
     dsimp only at hG
     split at hG
     ·rename_i v hv
      refine ⟨v, [b], hG, fun σ G w x hax hg hr => ?_⟩
      obtain ⟨hD, hax⟩ := hax
      have hgb : G b = .cells e cs := by rw [hg b (by simp)]; exact gv_of hb
      have hbk := hr.blk b (by rw [hgb]; simp)
      rw [hgb] at hbk
      obtain ⟨c, hc, hcs⟩ := hbk
      obtain ⟨y, hy, hv'⟩ := run_loadVar_of (P := P) (w := w) (a := ⟨σ.ι b, i * s + j, none⟩) hn hv ((hcs.dp (i * s + j)).tk n) (by rw [List.length_take, List.length_drop, ← hcs.1]; omega) rfl (fun k u hu => by
       rw [cell_row hc]
       rw [List.getElem?_take] at hu
       split at hu
       ·rw [List.getElem?_drop] at hu; exact hu
       ·cases hu)
      exact ⟨_, y, hax, hy, hv'⟩
     ·exact hG.elim
    ·exact hG.elim
   ·rename_i e u xs hb
    split at hG
    ·rename_i hl
     obtain ⟨rfl, hjn⟩ := hl
     obtain ⟨hi, hG⟩ := hG
     dsimp only at hG
     split at hG
     ·rename_i v hv
      refine ⟨v, [b], hG, fun σ G w x hax hg hr => ?_⟩
      obtain ⟨hD, hax⟩ := hax
      have hgb : G b = .vec e u xs := by rw [hg b (by simp)]; exact gv_of hb
      have hbk := hr.blk b (by rw [hgb]; simp)
      rw [hgb] at hbk
      obtain ⟨c, hc, hcl, hel⟩ := hbk
      have hk := rd_enc (σ := σ) u (hel i xs[i] (List.getElem?_eq_getElem hi))
      have hgd : xs.getD i u.dflt = xs[i] := by simp [List.getD_eq_getElem?_getD, List.getElem?_eq_getElem hi]
      rw [hgd] at hv
      have hle : i * u.sz + u.sz ≤ c.toList.length := by
       have : (i + 1) * u.sz ≤ xs.length * u.sz := Nat.mul_le_mul_right _ hi
       rw [Nat.succ_mul] at this
       simp; omega
      obtain ⟨y, hy, hv'⟩ := run_loadVar_of (P := P) (w := w) (a := ⟨σ.ι b, i * u.sz + j, none⟩) hn hv ((hk.dp j).tk n) (by simp only [List.length_take, List.length_drop]; omega) rfl (fun k u' hu => by
       rw [cell_row hc]
       rw [List.getElem?_take] at hu
       split at hu
       ·rw [List.getElem?_drop, List.getElem?_take] at hu
        split at hu
        ·rw [List.getElem?_drop] at hu; rw [← hu]; congr 1; simp only; omega
        ·cases hu
       ·cases hu)
      exact ⟨_, y, hax, hy, hv'⟩
     ·exact hG.elim
    ·split at hG
     ·rename_i hz
      obtain ⟨rfl, rfl, rfl, hnn⟩ := hz
      obtain ⟨hle, hG⟩ := hG
      dsimp only at hG
      split at hG
      ·rename_i v hv
       refine ⟨v, [b], hG, fun σ G w x hax hg hr => ?_⟩
       obtain ⟨hD, hax⟩ := hax
       have hgb : G b = .vec e u xs := by rw [hg b (by simp)]; exact gv_of hb
       have hbk := hr.blk b (by rw [hgb]; simp)
       rw [hgb] at hbk
       obtain ⟨c, hc, hcl, hel⟩ := hbk
       have hk := encFrom_ok (σ := σ) (w := w) (xs := xs) (vs := c.toList) (by simpa using hcl) hel (n / u.sz) 0 (by omega)
       have hnl : n ≤ c.toList.length := by
        have := Nat.mul_le_mul_right u.sz hle
        simp; omega
       rw [Nat.zero_mul, List.drop_zero, hnn] at hk
       obtain ⟨y, hy, hv'⟩ := run_loadVar_of (P := P) (w := w) (a := ⟨σ.ι b, 0 * 0 + 0, none⟩) hn hv hk (by simp only [List.length_take]; omega) rfl (fun k u' hu => by
        rw [cell_row hc]
        rw [List.getElem?_take] at hu
        split at hu
        ·rw [← hu]; congr 1; simp
        ·cases hu)
       exact ⟨_, y, hax, hy, hv'⟩
      ·exact hG.elim
     ·exact hG.elim
   ·rename_i e u xs hb
    split at hG
    ·rename_i hl
     obtain ⟨rfl, hjn⟩ := hl
     obtain ⟨hi, hG⟩ := hG
     dsimp only at hG
     split at hG
     ·rename_i v hv
      refine ⟨v, [b], hG, fun σ G w x hax hg hr => ?_⟩
      obtain ⟨hD, hax⟩ := hax
      have hgb : G b = .vec e u xs := by rw [hg b (by simp)]; exact gv_ovec hb (by rintro rfl; exact absurd hi (Nat.not_lt_zero _))
      have hbk := hr.blk b (by rw [hgb]; simp)
      rw [hgb] at hbk
      obtain ⟨c, hc, hcl, hel⟩ := hbk
      have hk := rd_enc (σ := σ) u (hel i xs[i] (List.getElem?_eq_getElem hi))
      have hgd : xs.getD i u.dflt = xs[i] := by simp [List.getD_eq_getElem?_getD, List.getElem?_eq_getElem hi]
      rw [hgd] at hv
      have hle : i * u.sz + u.sz ≤ c.toList.length := by
       have : (i + 1) * u.sz ≤ xs.length * u.sz := Nat.mul_le_mul_right _ hi
       rw [Nat.succ_mul] at this
       simp; omega
      obtain ⟨y, hy, hv'⟩ := run_loadVar_of (P := P) (w := w) (a := ⟨σ.ι b, i * u.sz + j, none⟩) hn hv ((hk.dp j).tk n) (by simp only [List.length_take, List.length_drop]; omega) rfl (fun k u' hu => by
       rw [cell_row hc]
       rw [List.getElem?_take] at hu
       split at hu
       ·rw [List.getElem?_drop, List.getElem?_take] at hu
        split at hu
        ·rw [List.getElem?_drop] at hu; rw [← hu]; congr 1; simp only; omega
        ·cases hu
       ·cases hu)
      exact ⟨_, y, hax, hy, hv'⟩
     ·exact hG.elim
    ·exact hG.elim
   ·exact hG.elim
  ·rename_i e xs i j
   split at hG
   ·rename_i hjn
    obtain ⟨hi, hG⟩ := hG
    split at hG
    ·rename_i v hv
     refine ⟨v, [], hG, fun σ G w x hax hg hr => ?_⟩
     obtain ⟨A, cap, hK, _, hax⟩ := hax
     obtain ⟨ad, cs, hA, _, hk, hlen, hcell, _⟩ := slice_elem hK hi
     injection hA with hA
     subst hA
     have hk' := rd_enc (σ := σ) e hk
     obtain ⟨y, hy, hv'⟩ := run_loadVar_of (P := P) (w := w) (a := ⟨A.block, A.off + (i * e.sz + j), none⟩) hn hv ((hk'.dp j).tk n) (by simp only [List.length_take, List.length_drop]; omega) rfl (fun k u' hu => by
      rw [List.getElem?_take] at hu
      split at hu
      ·rw [List.getElem?_drop] at hu
       rw [← hcell _ _ hu]
       simp only [Nat.add_assoc]
      ·cases hu)
     exact ⟨_, y, hax, hy, hv'⟩
    ·exact hG.elim
   ·exact hG.elim
  ·exact hG.elim

theorem ok_load {t : TypeId} {x : Operand} (ho : o.op = .load t x) (hG : Good P S Q (aLoad P t (ev env x) H K)) : ∃ v H' rd wr, Good P S Q (K v H' rd wr) ∧ Acts P o env H v H' rd wr := by
 obtain ⟨v, rd, hG, h⟩ := load_ok hG
 refine ⟨v, H, rd, [], hG, .pure fun σ G a w hx hg hr => ?_⟩
 obtain ⟨ad, y, hax, hy, hv⟩ := h σ G w _ (hx x (by rw [ho]; simp [Op.operands])) hg hr
 refine ⟨y, ?_, hv⟩
 simp only [execOp, ho, Instr.loadAt, hax, Instr.sureAddr]
 simp [hy]

theorem ok_field {t : TypeId} {x : Operand} {f : Nat} (ho : o.op = .fieldAddr t x f) (hG : Good P S Q (aFieldAddr P t (ev env x) f H K)) : ∃ v H' rd wr, Good P S Q (K v H' rd wr) ∧ Acts P o env H v H' rd wr := by
 unfold aFieldAddr at hG
 split at hG
 ·rename_i fd hfd
  unfold fieldOf at hfd
  split at hfd
  ·rename_i fs hu
   split at hG
   ·rename_i n hn
    have hfs : fs[f]? = some fd := by simpa using hfd
    have run : ∀ (w : World) (ad : Addr), ad.spot = none → (Instr.fieldAt t (.pointer (some ad)) f).run P w = .ok (.pointer (some ⟨ad.block, ad.off + fd.offset, none⟩)) w := fun w ad hs => by
     unfold Instr.fieldAt
     simp [run_underlying_of hu, hfs, Instr.sureAddr, fieldPlace, run_sizeOf_of hn, add_eq hs]
    split at hG
    ·rename_i b s i j hp
     refine ⟨_, H, [], [], hG, .pure fun σ G a w hx hg hr => ?_⟩
     have hax := hx x (by rw [ho]; simp [Op.operands])
     rw [hp] at hax
     obtain ⟨hD, hax⟩ := hax
     refine ⟨_, ?_, hD, rfl⟩
     simp only [execOp, ho, hax]
     simp [run w ⟨σ.ι b, i * s + j, none⟩ rfl, Nat.add_assoc]
    ·rename_i e xs i j hp
     refine ⟨_, H, [], [], hG, .pure fun σ G a w hx hg hr => ?_⟩
     have hax := hx x (by rw [ho]; simp [Op.operands])
     rw [hp] at hax
     obtain ⟨A, cap, hK, hi, hax⟩ := hax
     refine ⟨_, ?_, A, cap, hK, hi, rfl⟩
     simp only [execOp, ho, hax]
     simp [run w ⟨A.block, A.off + (i * e.sz + j), none⟩ rfl, Nat.add_assoc]
    ·exact hG.elim
   ·exact hG.elim
  ·cases hfd
 ·exact hG.elim

theorem ok_indexAddr {t : TypeId} {x y : Operand} (ho : o.op = .indexAddr t x y) (hG : Good P S Q (aIndexAddr P t (ev env x) (ev env y) H K)) : ∃ v H' rd wr, Good P S Q (K v H' rd wr) ∧ Acts P o env H v H' rd wr := by
 unfold aIndexAddr at hG
 split at hG
 ·rename_i k n hy
  split at hG
  ·rename_i e d xs hu hx0
   split at hG
   ·rename_i hsz
    obtain ⟨⟨h0, h1⟩, hG⟩ := hG
    refine ⟨_, H, [], [], hG, .pure fun σ G a w hx hg hr => ?_⟩
    have hax := hx x (by rw [ho]; simp [Op.operands])
    have hay := hx y (by rw [ho]; simp [Op.operands])
    rw [hx0] at hax
    rw [hy] at hay
    obtain ⟨hay, _⟩ := hay
    have hax : (Rd.slice d.rd).K σ.R w xs [a.eval x] := hax
    obtain ⟨A, c, hv, _⟩ := id hax
    injection hv with hv
    have hnl : n.toNat < xs.length := by omega
    rw [hv] at hax
    obtain ⟨ad, cs, rfl, _, _, _, _, hsp⟩ := slice_elem hax hnl
    refine ⟨.pointer (some ⟨ad.block, ad.off + (n.toNat * d.sz + 0), none⟩), ?_, ad, c, hax, hnl, rfl⟩
    have hadd : ad.add (n.toNat * d.sz) = ⟨ad.block, ad.off + (n.toNat * d.sz + 0), none⟩ := by
     by_cases hz : n.toNat = 0
     ·rw [add_eq (hsp hz)]
      simp
     ·have : n.toNat * d.sz ≠ 0 := Nat.mul_ne_zero hz (Nat.ne_of_gt d.sz_pos)
      simp [Addr.add, this]
    simp only [execOp, ho, hv, hay, Instr.indexAt, asIntOf]
    simp [run_underlying_of hu, run_sizeOf_of hsz, h0, h1, hadd]
   ·exact hG.elim
  ·rename_i e b s o' len hu hx0
   split at hG
   ·rename_i hsz
    obtain ⟨⟨h0, h1⟩, hG⟩ := hG
    refine ⟨_, H, [], [], hG, .pure fun σ G a w hx hg hr => ?_⟩
    have hax := hx x (by rw [ho]; simp [Op.operands])
    have hay := hx y (by rw [ho]; simp [Op.operands])
    rw [hx0] at hax
    rw [hy] at hay
    obtain ⟨hay, _⟩ := hay
    obtain ⟨hD, hs, cap, c, e', fr, hv, _⟩ := hax
    refine ⟨_, ?_, hD, rfl⟩
    have hadd : (⟨σ.ι b, o' * s, none⟩ : Addr).add (n.toNat * s) = ⟨σ.ι b, (o' + n.toNat) * s + 0, none⟩ := by
     rw [add_eq rfl]; simp [Nat.add_mul]
    simp only [execOp, ho, hv, hay, Instr.indexAt, asIntOf]
    simp [run_underlying_of hu, run_sizeOf_of hsz, h0, h1, hadd]
   ·exact hG.elim
  ·rename_i e b s len hu hx0
   split at hG
   ·rename_i hsz
    obtain ⟨⟨h0, h1⟩, hG⟩ := hG
    refine ⟨_, H, [], [], hG, .pure fun σ G a w hx hg hr => ?_⟩
    have hax := hx x (by rw [ho]; simp [Op.operands])
    have hay := hx y (by rw [ho]; simp [Op.operands])
    rw [hx0] at hax
    rw [hy] at hay
    obtain ⟨hay, _⟩ := hay
    obtain ⟨hD, hs, cap, c, e', fr, hv, _⟩ := hax
    refine ⟨_, ?_, hD, rfl⟩
    have hadd : (⟨σ.ι b, 0, none⟩ : Addr).add (n.toNat * s) = ⟨σ.ι b, n.toNat * s + 0, none⟩ := by
     rw [add_eq rfl]; simp
    simp only [execOp, ho, hv, hay, Instr.indexAt, asIntOf]
    simp [run_underlying_of hu, run_sizeOf_of hsz, h0, h1, hadd]
   ·exact hG.elim
  ·rename_i e b s len hu hx0
   split at hG
   ·rename_i hsz
    obtain ⟨⟨h0, h1⟩, hG⟩ := hG
    refine ⟨_, H, [], [], hG, .pure fun σ G a w hx hg hr => ?_⟩
    have hax := hx x (by rw [ho]; simp [Op.operands])
    have hay := hx y (by rw [ho]; simp [Op.operands])
    rw [hx0] at hax
    replace hax := (CC.osl_pos (by omega)).1 hax
    rw [hy] at hay
    obtain ⟨hay, _⟩ := hay
    obtain ⟨hD, hs, cap, c, e', fr, hv, _⟩ := hax
    simp only [Nat.zero_mul] at hv
    refine ⟨_, ?_, hD, rfl⟩
    have hadd : (⟨σ.ι b, 0, none⟩ : Addr).add (n.toNat * s) = ⟨σ.ι b, n.toNat * s + 0, none⟩ := by
     rw [add_eq rfl]; simp
    simp only [execOp, ho, hv, hay, Instr.indexAt, asIntOf]
    simp [run_underlying_of hu, run_sizeOf_of hsz, h0, h1, hadd]
   ·exact hG.elim
  ·rename_i len e b s o' j hu hx0
   split at hG
   ·rename_i s' hsz
    split at hG
    ·rename_i hz
     obtain ⟨rfl, rfl, hl1⟩ := hz
     obtain ⟨⟨h0, h1⟩, hG⟩ := hG
     refine ⟨_, H, [], [], hG, .pure fun σ G a w hx hg hr => ?_⟩
     have hax := hx x (by rw [ho]; simp [Op.operands])
     have hay := hx y (by rw [ho]; simp [Op.operands])
     rw [hx0] at hax
     rw [hy] at hay
     obtain ⟨hay, _⟩ := hay
     obtain ⟨hD, hv⟩ := hax
     refine ⟨_, ?_, hD, rfl⟩
     have hadd : (⟨σ.ι b, 0 * s + 0, none⟩ : Addr).add (n.toNat * s') = ⟨σ.ι b, n.toNat * s' + 0, none⟩ := by
      rw [add_eq rfl]; simp
     simp only [execOp, ho, hv, hay, Instr.indexAt, asIntOf]
     simp [run_underlying_of hu, run_sizeOf_of hsz, h0, h1, Instr.sureAddr]
     simpa using hadd
    ·exact hG.elim
   ·exact hG.elim
  ·rename_i len e d xs o' j hu hx0
   split at hG
   ·rename_i hz
    obtain ⟨hsz, rfl, rfl, hl1⟩ := hz
    obtain ⟨⟨h0, h1, h2⟩, hG⟩ := hG
    refine ⟨_, H, [], [], hG, .pure fun σ G a w hx hg hr => ?_⟩
    have hax := hx x (by rw [ho]; simp [Op.operands])
    have hay := hx y (by rw [ho]; simp [Op.operands])
    rw [hx0] at hax
    rw [hy] at hay
    obtain ⟨hay, _⟩ := hay
    obtain ⟨A, cap, hK, hp, hv⟩ := hax
    refine ⟨.pointer (some ⟨A.block, A.off + (n.toNat * d.sz + 0), none⟩), ?_, A, cap, hK, by omega, rfl⟩
    have hadd : (⟨A.block, A.off + (0 * d.sz + 0), none⟩ : Addr).add (n.toNat * d.sz) = ⟨A.block, A.off + (n.toNat * d.sz + 0), none⟩ := by
     rw [add_eq rfl]; simp
    simp only [execOp, ho, hv, hay, Instr.indexAt, asIntOf]
    simp [run_underlying_of hu, run_sizeOf_of hsz, h0, h1, Instr.sureAddr]
    simpa using hadd
   ·exact hG.elim
  ·exact hG.elim
 ·exact hG.elim
end
end Go.Proofs.YtkonkblfckhcbaaGreatDoor
namespace Go.Proofs.YtkonkblfckhcbaaGreatDoor
set_option linter.unusedVariables false
set_option linter.unusedSimpArgs false
open Go.RowKit

theorem wrap_of {k : IntKind} {n : Int} (h : inR k n) : k.wrap n = n := by
  unfold inR at h
  cases k <;> simp only [IntKind.min, IntKind.max, IntKind.signed, IntKind.bits] at h <;> simp at h
  · exact IntWalk.i8_in n (by omega)
  · exact IntWalk.i16_in n (by omega)
  · exact IntWalk.i32_in n (by omega)
  · exact IntWalk.i64_in n (by omega)
  · exact IntWalk.u8_in n (by omega)
  · exact IntWalk.u16_in n (by omega)
  · exact IntWalk.u32_in n (by omega)
  · exact IntWalk.u64_in n (by omega)
section
variable {P : Program} {S : List Item → List AV → List AB → Prop} {Q : AV → List AB → Prop} {o : Oper} {env : List AV} {H : List AB} {K : Kont}

theorem good_onB {v : AV} {A B : Tree} (h : Good P S Q (onB v A B)) : ∃ b, (v = .c (.bool b) ∨ v = .c (.lit b)) ∧ Good P S Q (if b then A else B) := by
  unfold onB at h
  split at h
  · exact ⟨true, .inr rfl, h⟩
  · exact ⟨false, .inr rfl, h⟩
  · rename_i b
    cases b with
    | true => exact ⟨true, .inl rfl, h.1 rfl⟩
    | false => exact ⟨false, .inl rfl, h.2 rfl⟩
  · exact h.elim
theorem CA_bool {σ : Sg} {w : World} {v : AV} {x : Value} {b : Bool} (hb : v = .c (.bool b) ∨ v = .c (.lit b)) (h : CA σ w v x) : x = .bool b := by
  rcases hb with rfl | rfl <;> exact h
theorem ok_pick {c x y : Operand} (ho : o.op = .pick c x y) (hG : Good P S Q (onB (ev env c) (K (ev env x) H [] []) (K (ev env y) H [] []))) : ∃ v H' rd wr, Good P S Q (K v H' rd wr) ∧ Acts P o env H v H' rd wr := by
  obtain ⟨b, hb, hG⟩ := good_onB hG
  cases b with
  | true => exact ⟨_, H, [], [], hG, .pure fun σ G a w hx hg hr => ⟨_, by
      have := CA_bool hb (hx c (by rw [ho]; simp [Op.operands]))
      simp [execOp, ho, this, asBool], hx x (by rw [ho]; simp [Op.operands])⟩⟩
  | false => exact ⟨_, H, [], [], hG, .pure fun σ G a w hx hg hr => ⟨_, by
      have := CA_bool hb (hx c (by rw [ho]; simp [Op.operands]))
      simp [execOp, ho, this, asBool], hx y (by rw [ho]; simp [Op.operands])⟩⟩

/-! filling -/
theorem putAt_fold (cells : Array Value) (off : Nat) : ∀ (new : List Value) (k : Nat), off + k + new.length ≤ cells.size →
    ((new.zipIdx k).foldl (fun (cs : Array Value) (p : Value × Nat) => cs.setIfInBounds (off + p.2) p.1) cells).toList = cells.toList.take (off + k) ++ new ++ cells.toList.drop (off + k + new.length) := by
  intro new
  induction new generalizing cells with
  | nil => intro k h; simp
  | cons v r ih =>
    intro k h
    simp only [List.zipIdx_cons, List.foldl_cons]
    rw [ih _ (k + 1) (by simp at h ⊢; omega)]
    simp only [Array.toList_setIfInBounds, List.length_cons]
    simp only [List.length_cons] at h
    have hlt : off + k < cells.toList.length := by simp; omega
    rw [show off + (k + 1) = (off + k) + 1 by omega, List.take_succ_eq_append_getElem (by simpa using hlt), List.getElem_set_self, List.take_set_of_le (by omega), List.drop_set_of_lt (by omega)]
    simp [Nat.add_assoc, Nat.add_comm]
    try omega
theorem All2.putAt {α β : Type} {R : α → β → Prop} {xs new : List α} {ys new' : List β} (h : All2 R xs ys) (h' : All2 R new new') (off : Nat) : All2 R (xs.take off ++ new ++ xs.drop (off + new.length)) (ys.take off ++ new' ++ ys.drop (off + new'.length)) := by
  rw [h'.1]
  exact ((h.tk off).app h').app (h.dp _)
theorem fill_ok {σ : Sg} {w : World} (place : Nat → Option (Nat × Nat)) : ∀ (parts : List (Nat × AV)) (pv : List (Nat × Value)) (cs out : List CV) (cells : Array Value),
    All2 (fun p q => p.1 = q.1 ∧ CA σ w p.2 q.2) parts pv → CCs σ w cs cells.toList → fillC place cs parts = some out → ∃ res, Instr.fill place cells pv = some res ∧ CCs σ w out res.toList := by
  intro parts
  induction parts with
  | nil =>
    intro pv cs out cells h hc ho
    obtain rfl := h.nil_of
    injection ho with ho
    subst ho
    exact ⟨cells, rfl, hc⟩
  | cons p r ih =>
    intro pv cs out cells h hc ho
    obtain ⟨q, r', rfl, ⟨h1, h2⟩, hr⟩ := h.cons_of
    obtain ⟨i, v⟩ := p
    obtain ⟨i', v'⟩ := q
    simp only at h1 h2
    subst h1
    match v, ho, h2 with
    | .one a, ho, h2 =>
      simp only [fillC] at ho
      split at ho
      · cases ho
      · rename_i off size hpl
        split at ho
        · cases ho
        · rename_i hcond
          have h3 := CA1.cells h2
          have hl : a.cells.length = v'.cells.size := by simpa using h3.1
          have hl2 : cs.length = cells.size := by simpa using hc.1
          have hf := putAt_fold cells off v'.cells.toList 0 (by simp; omega)
          obtain ⟨res, e1, e2⟩ := ih r' (putAt cs off a.cells) out (v'.cells.zipIdx.foldl (fun cs (c, j) => cs.setIfInBounds (off + j) c) cells) hr (by
            have : (v'.cells.zipIdx.foldl (fun (cs : Array Value) (p : Value × Nat) => cs.setIfInBounds (off + p.2) p.1) cells).toList = cells.toList.take off ++ v'.cells.toList ++ cells.toList.drop (off + v'.cells.toList.length) := by
              rw [← Array.foldl_toList, Array.toList_zipIdx]
              simpa using hf
            show CCs σ w _ (v'.cells.zipIdx.foldl (fun (cs : Array Value) (p : Value × Nat) => cs.setIfInBounds (off + p.2) p.1) cells).toList
            rw [this]
            exact hc.putAt h3 off) ho
          refine ⟨res, ?_, e2⟩
          simp only [Instr.fill, hpl]
          have h8 : a.cells.length = size ∧ off + size ≤ cs.length := by omega
          rw [if_neg (by simp; omega)]
          exact e1
theorem parts_ok {σ : Sg} {w : World} {a : Act} {parts : Array (Nat × Operand)} (hx : ∀ p ∈ parts.toList, CA σ w (ev env p.2) (a.eval p.2)) :
    All2 (fun p q => p.1 = q.1 ∧ CA σ w p.2 q.2) (parts.toList.map fun p => (p.1, ev env p.2)) (parts.map fun (i, x) => (i, a.eval x)).toList := by
  refine ⟨by simp, fun i x y h1 h2 => ?_⟩
  simp only [Array.toList_map, List.getElem?_map] at h1 h2
  cases hp : parts.toList[i]? with
  | none => rw [hp] at h1; cases h1
  | some p =>
    rw [hp] at h1 h2
    simp at h1 h2
    subst h1; subst h2
    exact ⟨rfl, hx p (List.mem_of_getElem? hp)⟩
theorem ok_build {t : TypeId} {parts : Array (Nat × Operand)} (ho : o.op = .build t parts) (hG : Good P S Q (aBuild P t (parts.toList.map fun p => (p.1, ev env p.2)) H K)) : ∃ v H' rd wr, Good P S Q (K v H' rd wr) ∧ Acts P o env H v H' rd wr := by
  unfold aBuild at hG
  split at hG
  · exact hG.elim
  · rename_i z hz
    have key : ∀ (place : Nat → Option (Nat × Nat)) (cs : List CV), fillC place z (parts.toList.map fun p => (p.1, ev env p.2)) = some cs → (∀ (zv : Value) (pv : List (Nat × Value)) (res : Array Value), (P.info? t).bind (·.zero) = some zv → Instr.fill place zv.cells pv = some res → P.built t pv = some res) → Acts P o env H (.agg cs) H [] [] := fun place cs hf hbu => .pure fun σ G a w hx hg hr => by
      obtain ⟨zv, hz1, hz2⟩ := zeroCs_ok (w := w) (σ := σ) hz
      obtain ⟨res, h1, h2⟩ := fill_ok (σ := σ) (w := w) place _ (parts.map fun (i, x) => (i, a.eval x)).toList z cs zv.cells (parts_ok fun p hp => hx p.2 (by rw [ho]; simp only [Op.operands]; simp; exact ⟨p.1, by simpa using hp⟩)) hz2 hf
      refine ⟨.agg res, ?_, res, rfl, h2⟩
      have := run_build (P := P) w t (parts.map fun (i, x) => (i, a.eval x)) res (hbu zv _ res hz1 h1)
      simp only [execOp, ho]
      simp [this]
    split at hG
    · rename_i fs hu
      split at hG
      · rename_i pl hpl
        split at hG
        · rename_i cs hf
          refine ⟨_, _, _, _, hG, key _ cs hf (fun zv pv res h1 h2 => ?_)⟩
          obtain ⟨it, hit, hzv⟩ := Option.bind_eq_some_iff.1 h1
          unfold Program.built
          simp only [hit, hu, hzv, hpl]
          simpa using h2
        · exact hG.elim
      · exact hG.elim
    · rename_i e hu
      split at hG
      · rename_i n hn
        split at hG
        · rename_i cs hf
          refine ⟨_, _, _, _, hG, key _ cs hf (fun zv pv res h1 h2 => ?_)⟩
          obtain ⟨it, hit, hzv⟩ := Option.bind_eq_some_iff.1 h1
          unfold szT at hn
          obtain ⟨ie, hie, rfl⟩ := Option.map_eq_some_iff.1 hn
          unfold Program.built
          simp only [hit, hu, hzv, hie]
          exact h2
        · exact hG.elim
      · exact hG.elim
    · exact hG.elim

theorem ok_nilCheck {x : Operand} (ho : o.op = .nilCheck x) {c : CV} (hv : ev env x = .c c) (hc : (∃ b s i j, c = .ptr b s i j) ∨ (∃ e xs i j, c = .pro e xs i j) ∨ (∃ f, c = .fn0 f) ∨ (∃ g d, c = .fnc g d)) : Acts P o env H (.c c) H [] [] := .pure fun σ G a w hx hg hr => by
  have hax := hx x (by rw [ho]; simp [Op.operands])
  rw [hv] at hax
  refine ⟨a.eval x, ?_, hax⟩
  rcases hc with ⟨b, s, i, j, rfl⟩ | ⟨e, xs, i, j, rfl⟩ | ⟨f, rfl⟩ | ⟨g, d, rfl⟩
  · have h : a.eval x = .pointer (some ⟨σ.ι b, i * s + j, none⟩) := hax.2
    simp [execOp, ho, h]
  · obtain ⟨_, _, _, _, h⟩ := hax
    simp [execOp, ho, h]
  · have h : a.eval x = .func (.func f) #[] #[] := hax
    simp [execOp, ho, h]
  · obtain ⟨f, cs, u, h, _⟩ := hax
    simp [execOp, ho, h]

theorem ok_un {op : UnOp} {t : TypeId} {x : Operand} (ho : o.op = .unOp op t x) (hG : Good P S Q (aUn op (ev env x) H K)) : ∃ v H' rd wr, Good P S Q (K v H' rd wr) ∧ Acts P o env H v H' rd wr := by
  unfold aUn at hG
  split at hG
  · rename_i b hv
    refine ⟨_, _, _, _, hG, .pure fun σ G a w hx hg hr => ?_⟩
    have hax := hx x (by rw [ho]; simp [Op.operands])
    rw [hv] at hax
    have hax : a.eval x = .bool b := hax
    exact ⟨.bool (!b), by simp [execOp, ho, hax, Op.unary], rfl⟩
  · rename_i b hv
    refine ⟨_, _, _, _, hG, .pure fun σ G a w hx hg hr => ?_⟩
    have hax := hx x (by rw [ho]; simp [Op.operands])
    rw [hv] at hax
    have hax : a.eval x = .bool b := hax
    exact ⟨.bool (!b), by simp [execOp, ho, hax, Op.unary], rfl⟩
  · rename_i k n hv
    obtain ⟨hin, hG⟩ := hG
    refine ⟨_, _, _, _, hG, .pure fun σ G a w hx hg hr => ?_⟩
    have hax := hx x (by rw [ho]; simp [Op.operands])
    rw [hv] at hax
    have hax : a.eval x = .int k n := hax.1
    exact ⟨.int k (0 - n), by have hw := wrap_of hin; simp only [execOp, ho, hax, Op.unary, Op.intArith, hw]; rfl, rfl, hin⟩
  · rename_i n hv
    refine ⟨_, _, _, _, hG, .pure fun σ G a w hx hg hr => ?_⟩
    have hax := hx x (by rw [ho]; simp [Op.operands])
    rw [hv] at hax
    have hax : a.eval x = .float .f64 n := hax
    exact ⟨.float .f64 (Op.negFloat .f64 n), by simp [execOp, ho, hax, Op.unary], rfl⟩
  · rename_i k n hv
    refine ⟨_, _, _, _, hG, .pure fun σ G a w hx hg hr => ?_⟩
    have hax := hx x (by rw [ho]; simp [Op.operands])
    rw [hv] at hax
    have hax : a.eval x = .int k n := hax.1
    exact ⟨.int k (bitsF .xor k (if k.signed then -1 else k.max) n), by simp only [execOp, ho, hax, Op.unary, Op.intBits, bitsF]; rfl, rfl, wrap_within _ _⟩
  · exact hG.elim

/-! arithmetic, comparisons -/
theorem int_of {σ : Sg} {w : World} {x : AV} {y : Value} {k : IntKind} {n : Int} (h : CA σ w x y) (hx : x = .c (.int k n)) : y = .int k n ∧ inR k n := by
  subst hx; exact h
theorem run_eqGuard_plain {op : BinOp} {t : TypeId} {x y : Operand} {a b : Value} {w : World} (h : op ≠ .eql ∧ op ≠ .neq) : (eqGuard op t x y a b).run P w = .ok () w := by
  unfold eqGuard
  cases op <;> simp_all
theorem ok_arith {op : BinOp} {t yt : TypeId} {x y : Operand} {k : IntKind} {r : Int} (ho : o.op = .binOp op t x y yt) (hop : op ≠ .eql ∧ op ≠ .neq)
    (hrun : ∀ (σ : Sg) (a : Act) (w : World), (∀ z ∈ o.op.operands, CA σ w (ev env z) (a.eval z)) → (binOp op t (a.eval x) (a.eval y)).run P w = .ok (.int k (k.wrap r)) w) (hG : Good P S Q (arith k r H K)) : ∃ v H' rd wr, Good P S Q (K v H' rd wr) ∧ Acts P o env H v H' rd wr := by
  obtain ⟨hin, hG⟩ := hG
  refine ⟨_, _, _, _, hG, .pure fun σ G a w hx hg hr => ⟨.int k r, ?_, rfl, hin⟩⟩
  have h1 := hrun σ a w hx
  rw [wrap_of hin] at h1
  simp only [execOp, ho]
  simp [run_eqGuard_plain hop, h1]
theorem ok_cmp {op : BinOp} {t yt : TypeId} {x y : Operand} {r : Bool} (ho : o.op = .binOp op t x y yt)
    (hrun : ∀ (σ : Sg) (a : Act) (w : World), (∀ z ∈ o.op.operands, CA σ w (ev env z) (a.eval z)) → (do eqGuard op t x y (a.eval x) (a.eval y); binOp op t (a.eval x) (a.eval y) : Sem Value).run P w = .ok (.bool r) w) (hG : Good P S Q (aBool r H K)) : ∃ v H' rd wr, Good P S Q (K v H' rd wr) ∧ Acts P o env H v H' rd wr := by
  refine ⟨_, _, _, _, hG, .pure fun σ G a w hx hg hr => ⟨.bool r, ?_, rfl⟩⟩
  have h1 := hrun σ a w hx
  simp only [execOp, ho]
  exact run_op_value h1

theorem bytes_beq (a b : ByteArray) : (a == b) = decide (a = b) := by
  obtain ⟨x⟩ := a
  obtain ⟨y⟩ := b
  show (x == y) = _
  rw [Bool.eq_iff_iff]
  simp
set_option maxHeartbeats 2000000 in
theorem eqC_ok {σ : Sg} {w : World} {t : TypeId} {d : TypeDesc} (hu : P.underlying t = some d) {a b : CV} {x y : Value} {r : Bool} (h : eqC d a b = some r) (ha : CC σ w a x) (hb : CC σ w b y) (n : Nat) : (Op.equalIn (n + 1) t x y).run P w = .ok r w := by
  have hU := run_underlying_of (w := w) hu
  unfold eqC at h
  split at h
  · split at h
    · split at h
      · rename_i hk
        injection h with h
        subst h; subst hk
        obtain ⟨rfl, _⟩ := ha
        obtain ⟨rfl, _⟩ := hb
        simp [Op.equalIn, hU]
        rfl
      · cases h
    · cases h
  · split at h
    · injection h with h
      subst h
      obtain ⟨rfl, _⟩ := ha
      obtain ⟨rfl, _⟩ := hb
      simp [Op.equalIn, hU, bytes_beq]
    · cases h
  all_goals first | (cases h; done) | skip
  all_goals (split at h <;> first | (cases h; done) | skip)
  all_goals (injection h with h; subst h)
  all_goals first
    | (obtain rfl : x = _ := ha
       obtain rfl : y = _ := hb
       simp [Op.equalIn, hU]
       done)
    | (obtain rfl : x = _ := ha
       obtain ⟨_, rfl⟩ := hb
       simp [Op.equalIn, hU]
       done)
    | (obtain ⟨_, rfl⟩ := ha
       obtain rfl : y = _ := hb
       simp [Op.equalIn, hU]
       done)
    | (obtain rfl : x = _ := ha
       obtain ⟨_, _, _, _, _, _, rfl, _⟩ := hb
       simp [Op.equalIn, hU]
       done)
    | (obtain ⟨_, _, _, _, _, _, rfl, _⟩ := ha
       obtain rfl : y = _ := hb
       simp [Op.equalIn, hU]
       done)
    | (obtain rfl : x = _ := ha
       obtain ⟨_, _, _, rfl, _⟩ := hb
       simp [Op.equalIn, hU]
       done)
    | (obtain ⟨_, _, _, rfl, _⟩ := ha
       obtain rfl : y = _ := hb
       simp [Op.equalIn, hU]
       done)
theorem toList_beq (a b : ByteArray) : (a.toList == b.toList) = decide (a = b) := by
  rw [← beq_toListBytes, bytes_beq]
set_option maxHeartbeats 2000000 in
theorem bin_eqC {σ : Sg} {w : World} {t : TypeId} {d : TypeDesc} (hu : P.underlying t = some d) {a b : CV} {x y : Value} {r : Bool} (h : eqC d a b = some r) (ha : CC σ w a x) (hb : CC σ w b y) (X Y : Operand) :
    (do eqGuard .eql t X Y x y; binOp .eql t x y : Sem Value).run P w = .ok (.bool r) w ∧ (do eqGuard .neq t X Y x y; binOp .neq t x y : Sem Value).run P w = .ok (.bool (!r)) w := by
  have hU := run_underlying_of (w := w) hu
  have hE := eqC_ok hu h ha hb 9999
  unfold eqC at h
  split at h
  · split at h
    · split at h
      · rename_i hk
        injection h with h
        subst h; subst hk
        obtain ⟨rfl, _⟩ := ha
        obtain ⟨rfl, _⟩ := hb
        constructor
        · simp [eqGuard, binOp, Op.intCmp]; rfl
        · simp [eqGuard, binOp, Op.intCmp]; rfl
      · cases h
    · cases h
  · split at h
    · injection h with h
      subst h
      obtain ⟨rfl, _⟩ := ha
      obtain ⟨rfl, _⟩ := hb
      constructor
      · simp [eqGuard, binOp, Op.stringOp, toList_beq]
      · simp [eqGuard, binOp, Op.stringOp, toList_beq]
    · cases h
  all_goals first | (cases h; done) | skip
  all_goals (split at h <;> first | (cases h; done) | skip)
  all_goals (injection h with h; subst h)
  all_goals first
    | (obtain rfl : x = _ := ha
       obtain rfl : y = _ := hb
       constructor <;> simp [eqGuard, binOp, Op.equal, Op.maxDepth, hE]
       done)
    | (obtain rfl : x = _ := ha
       obtain ⟨_, rfl⟩ := hb
       constructor <;> simp [eqGuard, binOp, Op.equal, Op.maxDepth, hE]
       done)
    | (obtain ⟨_, rfl⟩ := ha
       obtain rfl : y = _ := hb
       constructor <;> simp [eqGuard, binOp, Op.equal, Op.maxDepth, hE]
       done)
    | (obtain rfl : x = _ := ha
       obtain ⟨_, _, _, _, _, _, rfl, _⟩ := hb
       constructor <;> simp [eqGuard, binOp, Op.equal, Op.maxDepth, hE]
       done)
    | (obtain ⟨_, _, _, _, _, _, rfl, _⟩ := ha
       obtain rfl : y = _ := hb
       constructor <;> simp [eqGuard, binOp, Op.equal, Op.maxDepth, hE]
       done)
    | (obtain rfl : x = _ := ha
       obtain ⟨_, _, _, rfl, _⟩ := hb
       constructor <;> simp [eqGuard, binOp, Op.equal, Op.maxDepth, hE]
       done)
    | (obtain ⟨_, _, _, rfl, _⟩ := ha
       obtain rfl : y = _ := hb
       constructor <;> simp [eqGuard, binOp, Op.equal, Op.maxDepth, hE]
       done)
theorem partC_ok {σ : Sg} {w : World} {t : TypeId} {cs : List CV} {off : Nat} {a : A1} {vs : Array Value} (h : partC P t cs off = some a) (hc : CCs σ w cs vs.toList) : ∃ v, (part t vs off).run P w = .ok v w ∧ CA1 σ w a v := by
  unfold partC at h
  unfold part
  split at h
  · rename_i n hb hn
    split at h
    · injection h with h; subst h
      refine ⟨.agg (vs.extract off (off + n)), ?_, _, rfl, ?_⟩
      · simp [run_isAgg_of hb, run_sizeOf_of hn]
      · have := (hc.dp off).tk n
        simpa [List.extract_eq_take_drop] using this
    · cases h
  · rename_i hb
    split at h
    · rename_i c hcs
      injection h with h; subst h
      obtain ⟨v, hv, hr⟩ := hc.get hcs
      refine ⟨v, ?_, hr⟩
      have hv' : vs[off]? = some v := by simpa using hv
      simp [run_isAgg_of hb, hv']
    · cases h
  · cases h
theorem eqFs_ok {σ : Sg} {w : World} {go : TypeId → A1 → A1 → Option Bool} {d : Nat} (hgo : ∀ t a b x y r, go t a b = some r → CA1 σ w a x → CA1 σ w b y → (Op.equalIn d t x y).run P w = .ok r w) {xs ys : List CV} {vs us : Array Value} (hx : CCs σ w xs vs.toList) (hy : CCs σ w ys us.toList) :
    ∀ (fs : List Field) (r : Bool), eqFs P go xs ys fs = some r → (Op.eqFields d vs us fs).run P w = .ok r w := by
  intro fs
  induction fs with
  | nil => intro r h; injection h with h; subst h; rfl
  | cons f fs ih =>
    intro r h
    unfold eqFs at h
    split at h
    · cases h
    · rename_i hn
      split at h
      · rename_i a b ha hb
        split at h
        · rename_i r1 r2 h1 h2
          injection h with h
          subst h
          obtain ⟨va, e1, c1⟩ := partC_ok (w := w) ha hx
          obtain ⟨vb, e2, c2⟩ := partC_ok (w := w) hb hy
          have e3 := hgo _ _ _ _ _ _ h1 c1 c2
          have e4 := ih r2 h2
          unfold Op.eqFields
          cases r1 <;> simp [hn, e1, e2, e3, e4]
        · cases h
      · cases h
theorem eqTC_ok {σ : Sg} {w : World} : ∀ (n : Nat) (t : TypeId) (a b : A1) (x y : Value) (r : Bool), eqTC P n t a b = some r → CA1 σ w a x → CA1 σ w b y → ∀ m, n ≤ m → (Op.equalIn m t x y).run P w = .ok r w := by
  intro n
  induction n with
  | zero => intro t a b x y r h; cases h
  | succ n ih =>
    intro t a b x y r h ha hb m hm
    obtain ⟨m, rfl⟩ : ∃ k, m = k + 1 := ⟨m - 1, by omega⟩
    unfold eqTC at h
    split at h
    · rename_i fs hu
      split at h
      · rename_i xs ys
        split at h
        · rename_i hst
          obtain ⟨vs, rfl, hvs⟩ := ha
          obtain ⟨us, rfl, hus⟩ := hb
          have hf : P.fieldsOf t = fs := by unfold Program.fieldsOf; simp [hu]
          rw [run_equalIn_struct w m t vs us (by rw [hf]; exact hu) hst, hf]
          exact eqFs_ok (fun t a b x y r h ha hb => ih t a b x y r h ha hb m (by omega)) hvs hus _ _ h
        · cases h
      · cases h
    · rename_i d hns hu
      split at h
      · exact eqC_ok hu h ha hb m
      · cases h
    · cases h
theorem eqTC_cell {n : Nat} {t : TypeId} {a b : CV} {r : Bool} (h : eqTC P (n + 1) t (.c a) (.c b) = some r) : ∃ d, P.underlying t = some d ∧ eqC d a b = some r := by
  unfold eqTC at h
  cases hu : P.underlying t with
  | none => rw [hu] at h; cases h
  | some d =>
    rw [hu] at h
    cases d <;> first | exact ⟨_, rfl, h⟩ | cases h
theorem eqTop_ok {op : BinOp} {t yt : TypeId} {x y : Operand} {r : Bool} (hop : op = .eql ∨ op = .neq) (ho : o.op = .binOp op t x y yt) (h : eqTop P t (ev env x) (ev env y) = some r) (σ : Sg) (a : Act) (w : World) (hx : ∀ z ∈ o.op.operands, CA σ w (ev env z) (a.eval z)) :
    (do eqGuard op t x y (a.eval x) (a.eval y); binOp op t (a.eval x) (a.eval y) : Sem Value).run P w = .ok (.bool (if op = .eql then r else !r)) w := by
  have hax := hx x (by rw [ho]; simp [Op.operands])
  have hay := hx y (by rw [ho]; simp [Op.operands])
  generalize ev env x = X at h hax
  generalize ev env y = Y at h hay
  unfold eqTop at h
  split at h
  · obtain ⟨d, hu, h⟩ := eqTC_cell h
    obtain ⟨h1, h2⟩ := bin_eqC hu h hax hay x y
    rcases hop with rfl | rfl
    · simpa using h1
    · simpa using h2
  · split at h
    · rename_i hg
      obtain ⟨vs, hvs, hcs⟩ := hax
      obtain ⟨us, hus, hds⟩ := hay
      rw [hvs, hus]
      have hE := eqTC_ok 8 t _ _ (.agg vs) (.agg us) r h ⟨vs, rfl, hcs⟩ ⟨us, rfl, hds⟩ 10000 (by omega)
      rcases hop with rfl | rfl
      · simp [run_eqGuard_agg w _ t x y vs us hg, run_eql_struct, hE]
      · simp [run_eqGuard_agg w _ t x y vs us hg, run_neq_struct, hE]
    · cases h
  · cases h
set_option maxRecDepth 100000 in
theorem nan_order (a b t : Nat) : fOrd ((Question.nanBits .f64 a b).cut t) ((Question.nanBits .f64 a b).cut t) = none := by
  have e : (Question.nanBits .f64 a b).cut t = (t % 2) * 2 ^ 63 + 0x7ff0000000000000 + 1 + (t / 2) % (2 ^ 52 - 1) := rfl
  rw [e]
  have h1 : t % 2 < 2 := Nat.mod_lt _ (by decide)
  have h2 : (t / 2) % (2 ^ 52 - 1) < 2 ^ 52 - 1 := Nat.mod_lt _ (by decide)
  generalize t % 2 = s at *
  generalize (t / 2) % (2 ^ 52 - 1) = f at *
  have hr : FloatKind.f64.format.read (s * 2 ^ 63 + 0x7ff0000000000000 + 1 + f) = .nan (s % 2 == 1) (1 + f) := by
    have hw : FloatKind.f64.format.signWeight = 2 ^ 63 := rfl
    have hb : FloatKind.f64.format.binade = 2 ^ 52 := rfl
    have hi : FloatKind.f64.format.infRung = 0x7ff0000000000000 := by decide
    have m : (s * 2 ^ 63 + 0x7ff0000000000000 + 1 + f) % 2 ^ 63 = 0x7ff0000000000000 + 1 + f := by omega
    have d : (s * 2 ^ 63 + 0x7ff0000000000000 + 1 + f) / 2 ^ 63 = s := by omega
    unfold Ieee.Format.read
    simp only [hw, hb, hi, m, d]
    rw [if_neg (by omega), if_neg (by omega), if_neg (by omega)]
    have e2 : 0x7ff0000000000000 + 1 + f - 0x7ff0000000000000 = 1 + f := by omega
    rw [e2]
  unfold fOrd Ieee.Format.order
  rw [hr]
  rfl
theorem Stp.any {σ σ' : Sg} {G G' : Nat → AB} {w w' : World} (h : Stp σ G w [] G σ' w') : Stp σ G w [] G' σ' w' := ⟨h.D, h.ext, h.chg, fun b hb => (by cases hb), fun b hb => (by cases hb), fun b hb => (by cases hb), h.Rnew, fun b hb => (by cases hb), h.rlt, fun b hb => (by cases hb), h.F⟩
/-- Arithmetic on floats: where it is not valid the tape is asked. -/
theorem ok_fari {op : BinOp} {t yt : TypeId} {x y : Operand} {a0 b0 : Nat} (ho : o.op = .binOp op t x y yt) (hop : op = .add ∨ op = .sub ∨ op = .mul ∨ op = .quo) (hx0 : ev env x = .c (.flt a0)) (hy0 : ev env y = .c (.flt b0)) : Acts P o env H (.c (.flo op a0 b0)) H [] [] where
  len := Nat.le_refl _
  lt := fun b hb => by cases hb
  off := fun b _ => rfl
  act := fun σ G a w hx hg hd hr => by
    have hax := hx x (by rw [ho]; simp [Op.operands])
    have hay := hx y (by rw [ho]; simp [Op.operands])
    rw [hx0] at hax
    rw [hy0] at hay
    have hax : a.eval x = .float .f64 a0 := hax
    have hay : a.eval y = .float .f64 b0 := hay
    have hne : op ≠ .eql ∧ op ≠ .neq := by rcases hop with h | h | h | h <;> subst h <;> exact ⟨by decide, by decide⟩
    cases hb : floatBits op .f64 a0 b0 with
    | some r =>
      refine .value (v := .float .f64 r) (w' := w) ?_ ⟨σ, (Stp.none hr).any, r, rfl, fun q hq => Option.some.inj (hb.symm.trans hq), fun hn => ?_⟩
      · simp only [execOp, ho, hax, hay]
        exact run_op_value (by simp [run_eqGuard_plain hne, run_float_arith w op t .f64 a0 b0 r hb])
      · rw [hb] at hn; cases hn
    | none =>
      have hrun : (binOp op t (.float .f64 a0) (.float .f64 b0)).run P w = .ok (.float .f64 ((Question.nanBits .f64 a0 b0).cut (w.tape w.drawn (.nanBits .f64 a0 b0)))) w.drew := by
        unfold floatBits at hb
        rcases hop with h | h | h | h <;> subst h <;> simp only at hb <;> simp [binOp, Op.floatArith, hb, Question.forced]
      refine .value (v := .float .f64 ((Question.nanBits .f64 a0 b0).cut (w.tape w.drawn (.nanBits .f64 a0 b0)))) (w' := w.drew) ?_ ⟨σ, (Stp.quiet (fun _ => Iff.rfl) rfl rfl (fun _ h => h) (Below.refl _ _).drew (fun _ h => .inl h) hr.rlt).any, _, rfl, fun q hq => ?_, fun _ => nan_order a0 b0 _⟩
      · simp only [execOp, ho, hax, hay]
        exact run_op_value (by simp [run_eqGuard_plain hne, hrun])
      · rw [hb] at hq; cases hq
theorem fltsOf_some {x y : AV} {p : Nat × Nat} (h : fltsOf x y = some p) : x = .c (.flt p.1) ∧ y = .c (.flt p.2) := by
  unfold fltsOf at h
  split at h
  · injection h with h; subst h; exact ⟨rfl, rfl⟩
  · cases h
theorem ok_flt {op : BinOp} {t yt : TypeId} {x y : Operand} {a0 b0 : Nat} (ho : o.op = .binOp op t x y yt) (hx0 : ev env x = .c (.flt a0)) (hy0 : ev env y = .c (.flt b0)) (hG : Good P S Q (aFlt op a0 b0 H K)) : ∃ v H' rd wr, Good P S Q (K v H' rd wr) ∧ Acts P o env H v H' rd wr := by
  have key : ∀ (σ : Sg) (a : Act) (w : World), (∀ z ∈ o.op.operands, CA σ w (ev env z) (a.eval z)) → a.eval x = .float .f64 a0 ∧ a.eval y = .float .f64 b0 := fun σ a w hx => by
    have hax := hx x (by rw [ho]; simp [Op.operands])
    have hay := hx y (by rw [ho]; simp [Op.operands])
    rw [hx0] at hax
    rw [hy0] at hay
    exact ⟨hax, hay⟩
  unfold aFlt at hG
  split at hG
  iterate 6
    · exact ok_cmp ho (fun σ a w hx => by
        obtain ⟨h1, h2⟩ := key σ a w hx
        rw [h1, h2]
        simp [eqGuard, binOp, Op.floatCmp, fOrd]) hG
  · exact ⟨_, _, _, _, hG, ok_fari ho (by simp) hx0 hy0⟩
  · exact ⟨_, _, _, _, hG, ok_fari ho (by simp) hx0 hy0⟩
  · exact ⟨_, _, _, _, hG, ok_fari ho (by simp) hx0 hy0⟩
  · exact ⟨_, _, _, _, hG, ok_fari ho (by simp) hx0 hy0⟩
  · exact hG.elim
theorem ok_bin0 {op : BinOp} {t yt : TypeId} {x y : Operand} (ho : o.op = .binOp op t x y yt) (hG : Good P S Q (aBin0 P op t (ev env x) (ev env y) H K)) : ∃ v H' rd wr, Good P S Q (K v H' rd wr) ∧ Acts P o env H v H' rd wr := by
  have mx : x ∈ o.op.operands := by rw [ho]; simp [Op.operands]
  have my : y ∈ o.op.operands := by rw [ho]; simp [Op.operands]
  unfold aBin0 at hG
  split at hG
  · split at hG
    · rename_i r he
      exact ok_cmp ho (fun σ a w hx => by simpa using eqTop_ok (.inl rfl) ho he σ a w hx) hG
    · exact hG.elim
  · split at hG
    · rename_i r he
      exact ok_cmp ho (fun σ a w hx => by simpa using eqTop_ok (.inr rfl) ho he σ a w hx) hG
    · exact hG.elim
  · rename_i hne1 hne2
    have hop : op ≠ .eql ∧ op ≠ .neq := ⟨fun e => hne1 e, fun e => hne2 e⟩
    split at hG
    · rename_i k a0 k' b0 hx0 hy0
      split at hG
      · obtain ⟨h0, hG⟩ := hG
        exact ok_arith ho hop (fun σ a w hx => by
          rw [(int_of (hx x mx) hx0).1, (int_of (hx y my) hy0).1]
          simp [binOp, Op.shift, show ¬ b0 < 0 by omega]) hG
      · obtain ⟨h0, hG⟩ := hG
        obtain ⟨hin, hG⟩ := hG
        refine ⟨_, _, _, _, hG, .pure fun σ G a w hx hg hr => ⟨.int k _, ?_, rfl, hin⟩⟩
        simp only [execOp, ho]
        rw [(int_of (hx x mx) hx0).1, (int_of (hx y my) hy0).1]
        simp [run_eqGuard_plain hop, binOp, Op.shift, show ¬ b0 < 0 by omega]
      · split at hG
        · rename_i hk
          subst hk
          split at hG
          · exact ok_arith ho hop (fun σ a w hx => by
              rw [(int_of (hx x mx) hx0).1, (int_of (hx y my) hy0).1]
              simp [binOp, Op.intArith]) hG
          · exact ok_arith ho hop (fun σ a w hx => by
              rw [(int_of (hx x mx) hx0).1, (int_of (hx y my) hy0).1]
              simp [binOp, Op.intArith]) hG
          · exact ok_arith ho hop (fun σ a w hx => by
              rw [(int_of (hx x mx) hx0).1, (int_of (hx y my) hy0).1]
              simp [binOp, Op.intArith]) hG
          · obtain ⟨h0, hG⟩ := hG
            exact ok_arith ho hop (fun σ a w hx => by
              rw [(int_of (hx x mx) hx0).1, (int_of (hx y my) hy0).1]
              simp [binOp, Op.intDiv, h0]) hG
          · obtain ⟨h0, hG⟩ := hG
            obtain ⟨hin, hG⟩ := hG
            refine ⟨_, _, _, _, hG, .pure fun σ G a w hx hg hr => ⟨.int _ _, ?_, rfl, hin⟩⟩
            simp only [execOp, ho]
            rw [(int_of (hx x mx) hx0).1, (int_of (hx y my) hy0).1]
            simp [run_eqGuard_plain hop, binOp, Op.intDiv, h0]
          · exact ok_cmp ho (fun σ a w hx => by
              rw [(int_of (hx x mx) hx0).1, (int_of (hx y my) hy0).1]
              simp [run_eqGuard_plain hop, binOp, Op.intCmp]) hG
          · exact ok_cmp ho (fun σ a w hx => by
              rw [(int_of (hx x mx) hx0).1, (int_of (hx y my) hy0).1]
              simp [run_eqGuard_plain hop, binOp, Op.intCmp]) hG
          · exact ok_cmp ho (fun σ a w hx => by
              rw [(int_of (hx x mx) hx0).1, (int_of (hx y my) hy0).1]
              simp [run_eqGuard_plain hop, binOp, Op.intCmp]) hG
          · exact ok_cmp ho (fun σ a w hx => by
              rw [(int_of (hx x mx) hx0).1, (int_of (hx y my) hy0).1]
              simp [run_eqGuard_plain hop, binOp, Op.intCmp]) hG
          iterate 4
            · refine ⟨_, _, _, _, hG, .pure fun σ G a w hx hg hr => ⟨.int _ _, ?_, rfl, wrap_within _ _⟩⟩
              simp only [execOp, ho]
              rw [(int_of (hx x mx) hx0).1, (int_of (hx y my) hy0).1]
              simp [run_eqGuard_plain hop, binOp, Op.intBits, bitsF]
          · exact hG.elim
        · exact hG.elim
    · rename_i a0 b0 hx0 hy0
      split at hG
      · obtain ⟨hs, hG⟩ := hG
        refine ⟨_, _, _, _, hG, .pure fun σ G a w hx hg hr => ?_⟩
        have hax := hx x mx
        have hay := hx y my
        rw [hx0] at hax
        rw [hy0] at hay
        obtain ⟨hax, _⟩ := hax
        obtain ⟨hay, _⟩ := hay
        refine ⟨.string (a0 ++ b0), ?_, rfl, by rw [ByteArray.size_append]; exact hs⟩
        simp only [execOp, ho]
        rw [hax, hay]
        have hm : ¬ (((a0.size + b0.size : Nat) : Int) > IntKind.i64.max) := by
          simp [IntKind.max, IntKind.signed, IntKind.bits]; omega
        simp only [Int.natCast_add] at hm
        simp [run_eqGuard_plain hop, binOp, Op.stringOp, hm]
        omega
      · exact hG.elim
    · exact hG.elim
theorem ok_bin {op : BinOp} {t yt : TypeId} {x y : Operand} (ho : o.op = .binOp op t x y yt) (hG : Good P S Q (aBin P op t (ev env x) (ev env y) H K)) : ∃ v H' rd wr, Good P S Q (K v H' rd wr) ∧ Acts P o env H v H' rd wr := by
  unfold aBin at hG
  split at hG
  · rename_i a0 b0 h
    obtain ⟨h1, h2⟩ := fltsOf_some h
    exact ok_flt ho h1 h2 hG
  · exact ok_bin0 ho hG
end
end Go.Proofs.YtkonkblfckhcbaaGreatDoor
namespace Go.Proofs.YtkonkblfckhcbaaGreatDoor
set_option linter.unusedVariables false
set_option linter.unusedSimpArgs false
open Go.RowKit

section
variable {P : Program} {S : List Item → List AV → List AB → Prop} {Q : AV → List AB → Prop} {o : Oper} {env : List AV} {H : List AB} {K : Kont}

/-! a store -/
theorem run_storeCells {w : World} {b : Nat} {e : TypeId} : ∀ (vs : List Value) (c : Array Value) (o k : Nat) (w : World), w.heap[b]? = some (.cells c e (0, 0)) → o + k + vs.length ≤ c.size → (∀ v ∈ vs, v.oneCell' = true) →
  ∃ w', (storeCells ⟨b, o, none⟩ vs k).run P w = .ok () w' ∧ Chg (fun i => i = b) w w' ∧ ∃ c', w'.heap[b]? = some (.cells c' e (0, 0)) ∧ c'.size = c.size ∧ c'.toList = c.toList.take (o + k) ++ vs ++ c.toList.drop (o + k + vs.length) := by
 intro vs
 induction vs with
 | nil => intro c o k w hb hl h1; exact ⟨w, rfl, Chg.refl _ _, c, hb, rfl, by simp⟩
 | cons v r ih =>
  intro c o k w hb hl h1
  simp only [List.length_cons] at hl
  have ha : (⟨b, o, none⟩ : Addr).add k = ⟨b, o + k, none⟩ := add_eq rfl k
  have hcell : w.cell? ⟨b, o + k, none⟩ = some c[o + k] := by
   rw [cell_of_row w b (o + k) c e (0, 0) hb]
   exact Array.getElem?_eq_getElem (by omega)
  have hset := heap_setCell_same w b (o + k) c e v hb
  have hfr : w.frozen? ⟨b, o + k, none⟩ = false := frozen_of_row w b (o + k) c e hb
  obtain ⟨w', hr, hch, c', hc', hs, hl'⟩ := ih (c.setIfInBounds (o + k) v) o (k + 1) (w.setCell ⟨b, o + k, none⟩ v) hset (by simp; omega) (fun u hu => h1 u (by simp [hu]))
  refine ⟨w', ?_, ?_, c', hc', by rw [hs]; simp, ?_⟩
  ·unfold storeCells
   simp only [Sem.run_bind, ha]
   rw [run_store P w _ v .plain (h1 v (by simp)), hcell]
   simp [hfr, hr]
  ·refine Chg.trans (fp := fun i => i = b) (show Chg (fun i => i = b) w (w.setCell ⟨b, o + k, none⟩ v) from ⟨rfl, rfl, rfl, by simp, fun i hi hn => heap_setCell_other w ⟨b, o + k, none⟩ i v hn⟩) hch (fun i _ h => h)
  ·rw [hl']
   have hlt : o + k < c.toList.length := by simp; omega
   simp only [Array.toList_setIfInBounds]
   rw [show o + (k + 1) = (o + k) + 1 by omega, List.take_succ_eq_append_getElem (by simpa using hlt), List.getElem_set_self, List.take_set_of_le (by omega), List.drop_set_of_lt (by omega)]
   simp [Nat.add_assoc, Nat.add_comm]
   try omega
theorem splice_in {α : Type} (l vs : List α) (p s j : Nat) (hj : j + vs.length ≤ s) (hl : p + s ≤ l.length) :
  ((l.take (p + j) ++ vs ++ l.drop (p + j + vs.length)).drop p).take s = (((l.drop p).take s).take j ++ vs ++ ((l.drop p).take s).drop (j + vs.length)).take s := by
 apply List.ext_getElem?
 intro k
 simp only [List.getElem?_take, List.getElem?_drop, List.getElem?_append, List.length_append, List.length_take, List.length_drop]
 repeat' split
 all_goals first
  | rfl
  | omega
  | (congr 1; omega)
theorem splice_off {α : Type} (l vs : List α) (p q s j : Nat) (hj : j + vs.length ≤ s) (hl : p + s ≤ l.length) (hq : q + s ≤ p ∨ p + s ≤ q) :
  ((l.take (p + j) ++ vs ++ l.drop (p + j + vs.length)).drop q).take s = (l.drop q).take s := by
 apply List.ext_getElem?
 intro k
 simp only [List.getElem?_take, List.getElem?_drop, List.getElem?_append, List.length_append, List.length_take, List.length_drop]
 repeat' split
 all_goals first
  | rfl
  | omega
  | (congr 1; omega)
theorem Stp.store {σ : Sg} {G G' : Nat → AB} {w w' : World} {b : Nat} {c c' : Array Value} {e : TypeId} (hr : RelG σ G w) (hb : G b ≠ .dead) (hc : w.heap[σ.ι b]? = some (.cells c e (0, 0))) (hch : Chg (fun i => i = σ.ι b) w w') (hc' : w'.heap[σ.ι b]? = some (.cells c' e (0, 0))) (hs : c'.size = c.size)
  (hG : ∀ σ', Ext σ w σ' w' → Blk σ' w' (σ.ι b) (σ.F b) (G' b)) : Stp σ G w [b] G' σ w' := by
 have hx : Ext σ w σ w' := ⟨fun k hk => ⟨hk, rfl⟩, fun _ h => h, fun k hk hlt => hch.block k hlt (by rintro rfl; exact hr.out b hb hk), fun k d e' fr hk => by
  by_cases hkb : k = σ.ι b
  ·subst hkb
   rw [hc] at hk
   injection hk with hk
   injection hk with h1 h2 h3
   subst h1; subst h2; subst h3
   exact ⟨c', (0, 0), hc', hs⟩
  ·exact ⟨d, fr, by rw [hch.block k (Array.getElem?_eq_some_iff.1 hk).1 hkb]; exact hk, rfl⟩⟩
 refine ⟨?_, hx, ?_, ?_, ?_, ?_, fun k h => .inl h, ?_, fun k hk => Nat.lt_of_lt_of_le (hr.rlt k hk) hch.size, ?_, fun _ _ _ => rfl⟩
 ·intro k
  constructor
  ·exact fun h => .inl h
  ·rintro (h | h)
   ·exact h
   ·obtain rfl : k = b := by simpa using h
    exact hr.dom k hb
 ·exact hch.mono (fun k hk => ⟨b, by simp, hb, .inl hk.symm⟩)
 ·intro k hk _
  obtain rfl : k = b := by simpa using hk
  exact hG σ hx
 ·intro k hk _ q hq
  obtain rfl : k = b := by simpa using hk
  exact .inl ⟨k, by simp, hb, hq⟩
 ·intro k hk k' hk' _ _ _ _ _
  obtain rfl : k = b := by simpa using hk
  obtain rfl : k' = k := by simpa using hk'
  rfl
 ·intro k hk _
  obtain rfl : k = b := by simpa using hk
  exact hr.outF k hb
 ·intro k hk _ q hq
  obtain rfl : k = b := by simpa using hk
  exact (hr.flt k hb q hq).ext hx
theorem gv_set {b : Nat} {ab : AB} (hb : b < H.length) : gv (H.set b ab) b = nrm ab := gv_some (List.getElem?_set_self hb)
theorem gv_set_off {b k : Nat} {ab : AB} (hk : k ∉ [b]) : gv (H.set b ab) k = gv H k := by
 have hk : b ≠ k := by intro h; exact hk (by simp [h])
 simp [gv, List.getD_eq_getElem?_getD, List.getElem?_set_ne hk]
theorem lt_of_get {b : Nat} {ab : AB} (h : H[b]? = some ab) : b < H.length := (List.getElem?_eq_some_iff.1 h).1
/-- What a store changes. -/
theorem Acts.store {t : TypeId} {x y : Operand} {n b s i j : Nat} {a1 : A1} {ab ab0 ab' : AB} (ho : o.op = .store t x y) (hn : szT P t = some n) (hl : a1.cells.length = n) (hp : ev env x = .c (.ptr b s i j)) (hv : ev env y = .one a1) (hb : H[b]? = some ab0) (hn0 : nrm ab0 = ab) (hd : ab ≠ .dead)
  (hB : ∀ (σ : Sg) (w : World), Blk σ w (σ.ι b) (σ.F b) ab → ∃ c e, w.heap[σ.ι b]? = some (.cells c e (0, 0)) ∧ i * s + j + n ≤ c.size ∧ ∀ (σ' : Sg) (w' : World) (c' : Array Value) (vs : List Value), Ext σ w σ' w' → w'.heap[σ.ι b]? = some (.cells c' e (0, 0)) → CCs σ' w' a1.cells vs → c'.toList = c.toList.take (i * s + j) ++ vs ++ c.toList.drop (i * s + j + vs.length) → Blk σ' w' (σ.ι b) (σ.F b) ab') :
  Acts P o env H .junk (H.set b ab') [] [b] where
 len := by simp
 lt := fun k hk => by
  obtain rfl : k = b := by simpa using hk
  simpa using lt_of_get hb
 off := fun k hk => gv_set_off hk
 act := fun σ G a w hx hg hD hr => by
  have hax := hx x (by rw [ho]; simp [Op.operands])
  have hay := hx y (by rw [ho]; simp [Op.operands])
  rw [hp] at hax
  rw [hv] at hay
  obtain ⟨_, hax⟩ := hax
  have hgb : G b = ab := by rw [hg b (by simp)]; exact (gv_some hb).trans hn0
  have hbk := hr.blk b (by rw [hgb]; exact hd)
  rw [hgb] at hbk
  obtain ⟨c, e, hc, hle, hnew⟩ := hB σ w hbk
  have hcs := CA1.cells hay
  have hlen : (a.eval y).cells.toList.length = n := by rw [← hcs.1, hl]
  obtain ⟨w', hrun, hch, c', hc', hs, hl'⟩ := run_storeCells (P := P) (w := w) (b := σ.ι b) (e := e) (a.eval y).cells.toList c (i * s + j) 0 w hc (by omega) (fun v hv => by
   obtain ⟨k, hk, rfl⟩ := List.mem_iff_getElem.1 hv
   exact CC.one (hcs.2 k (a1.cells[k]'(by rw [hcs.1]; exact hk)) _ (List.getElem?_eq_getElem _) (List.getElem?_eq_getElem _)))
  refine .skip ?_ ⟨σ, Stp.store (G' := gv (H.set b ab')) hr (by rw [hgb]; exact hd) hc hch hc' hs (fun σ' hx' => ?_), trivial⟩
  ·simp only [execOp, ho, Instr.storeAt, hax, Instr.sureAddr]
   have hsz : (a.eval y).cells.size = n := by simpa using hlen
   simp [storeVar, run_sizeOf_of hn, hsz, hrun]
  ·rw [gv_set (lt_of_get hb)]
   exact (hnew σ' w' c' _ hx' hc' (hcs.ext hx') (by simpa using hl')).nrm
theorem decMany_ok {σ : Sg} {w : World} (t : Ty) : ∀ (n : Nat) (cs : List CV) (vs : List Value) (xs : List t.El), decMany t n cs = some xs → CCs σ w cs vs → xs.length = n ∧ ∀ i x, xs[i]? = some x → t.rd.K σ.R w x ((vs.drop (i * t.sz)).take t.sz) := by
 intro n
 induction n with
 | zero =>
  intro cs vs xs h hc
  match cs, h with
  | [], h => injection h with h; subst h; exact ⟨rfl, fun i x hi => by simp at hi⟩
 | succ n ih =>
  intro cs vs xs h hc
  unfold decMany at h
  split at h
  ·rename_i x r hd
   split at h
   ·rename_i ys hys
    injection h with h
    subst h
    obtain ⟨h1, h2, h3⟩ := dec_rd (σ := σ) (w := w) t hd hc
    obtain ⟨l1, l2⟩ := ih r _ ys hys h2
    refine ⟨by simp [l1], fun i y hi => ?_⟩
    cases i with
    | zero =>
     simp at hi
     subst hi
     simpa using h1
    | succ i =>
     simp at hi
     have := l2 i y hi
     rw [List.drop_drop] at this
     rw [Nat.succ_mul, Nat.add_comm]
     exact this
   ·cases h
  ·cases h
theorem ok_store {t : TypeId} {x y : Operand} (ho : o.op = .store t x y) (hG : Good P S Q (aStore P t (ev env x) (ev env y) H K)) : ∃ v H' rd wr, Good P S Q (K v H' rd wr) ∧ Acts P o env H v H' rd wr := by
 unfold aStore at hG
 split at hG
 ·exact hG.elim
 ·exact hG.elim
 ·rename_i a1 hv
  split at hG
  ·exact hG.elim
  ·rename_i n hn
   split at hG
   ·exact hG.elim
   ·rename_i hl
    have hl : a1.cells.length = n := by omega
    split at hG
    ·rename_i b s i j hp
     split at hG
     ·rename_i e cs hb
      split at hG
      ·rename_i hle
       refine ⟨_, _, _, _, hG, Acts.store (ab := .cells e cs) ho hn hl hp hv hb rfl (by simp) (fun σ w hB => ?_)⟩
       obtain ⟨c, hc, hcs⟩ := hB
       refine ⟨c, e, hc, by have := hcs.1; simp at this; omega, fun σ' w' c' vs hx hc' hvs hl' => ⟨c', hc', ?_⟩⟩
       rw [hl']
       exact (hcs.ext hx).putAt hvs _
      ·exact hG.elim
     ·rename_i e u xs hb
      split at hG
      ·rename_i hjn
       obtain ⟨rfl, hjn⟩ := hjn
       obtain ⟨hi, hG⟩ := hG
       split at hG
       ·rename_i z hz
        refine ⟨_, _, _, _, hG, Acts.store (ab := .vec e u xs) ho hn hl hp hv hb rfl (by simp) (fun σ w hB => ?_)⟩
        obtain ⟨c, hc, hcl, hel⟩ := hB
        have hle : i * u.sz + u.sz ≤ c.size := by
         have : (i + 1) * u.sz ≤ xs.length * u.sz := Nat.mul_le_mul_right _ hi
         rw [Nat.succ_mul] at this
         omega
        refine ⟨c, e, hc, by omega, fun σ' w' c' vs hx hc' hvs hl' => ?_⟩
        have hvl : vs.length = n := by rw [← hvs.1, hl]
        have hsz' : c'.size = c.size := by
         have := congrArg List.length hl'
         simp at this
         omega
        refine ⟨c', hc', ?_, fun k y hk => ?_⟩
        ·rw [List.length_set, hsz']; exact hcl
        ·by_cases hki : i = k
         ·subst hki
          rw [List.getElem?_set_self hi] at hk
          injection hk with hk
          subst hk
          have hgd : xs.getD i u.dflt = xs[i] := by simp [List.getD_eq_getElem?_getD, List.getElem?_eq_getElem hi]
          rw [hgd] at hz
          have hold := rd_enc (σ := σ') u (rd_ext hx (hel i xs[i] (List.getElem?_eq_getElem hi)))
          have hnew := hold.putAt hvs j
          obtain ⟨h1, _, _⟩ := dec_rd u hz hnew
          have e1 := splice_in c.toList vs (i * u.sz) u.sz j (by omega) (by simp; omega)
          rw [hl', e1]
          exact h1
         ·rw [List.getElem?_set_ne hki] at hk
          have h1 := rd_ext hx (hel k y hk)
          have e1 := splice_off c.toList vs (i * u.sz) (k * u.sz) u.sz j (by omega) (by simp; omega) (by
           rcases Nat.lt_or_gt_of_ne hki with h | h
           ·right
            have := Nat.mul_le_mul_right u.sz (show i + 1 ≤ k from h)
            rw [Nat.succ_mul] at this
            exact this
           ·left
            have := Nat.mul_le_mul_right u.sz (show k + 1 ≤ i from h)
            rw [Nat.succ_mul] at this
            exact this)
          rw [hl', e1]
          exact h1
       ·exact hG.elim
      ·split at hG
       ·rename_i hz
        obtain ⟨rfl, rfl, rfl, hnn⟩ := hz
        split at hG
        ·rename_i ys hys
         obtain ⟨hlen, hG⟩ := hG
         refine ⟨_, _, _, _, hG, Acts.store (ab := .vec e u xs) ho hn hl hp hv hb rfl (by simp) (fun σ w hB => ?_)⟩
         obtain ⟨c, hc, hcl, hel⟩ := hB
         refine ⟨c, e, hc, by rw [hlen, hnn] at hcl; omega, fun σ' w' c' vs hx hc' hvs hl' => ?_⟩
         obtain ⟨d1, d2⟩ := decMany_ok (σ := σ') (w := w') u _ _ vs ys hys hvs
         have hvl : vs.length = n := by rw [← hvs.1, hl]
         have hl2 : c'.toList = vs ++ c.toList.drop vs.length := by simpa using hl'
         refine ⟨c', hc', ?_, fun k y hk => ?_⟩
         ·have := congrArg List.length hl2
          simp only [List.length_append, Array.length_toList] at this
          rw [d1, hnn]
          omega
         ·have hkl := (List.getElem?_eq_some_iff.1 hk).1
          have h1 := d2 k y hk
          have hle : k * u.sz + u.sz ≤ vs.length := by
           have := Nat.mul_le_mul_right u.sz (show k + 1 ≤ n / u.sz by omega)
           rw [Nat.succ_mul, hnn] at this
           omega
          rw [hl2, List.drop_append_of_le_length (by omega), List.take_append_of_le_length (by rw [List.length_drop]; omega)]
          exact h1
        ·exact hG.elim
       ·exact hG.elim
     ·rename_i e u xs hb
      split at hG
      ·rename_i hjn
       obtain ⟨rfl, hjn⟩ := hjn
       obtain ⟨hi, hG⟩ := hG
       split at hG
       ·rename_i z hz
        refine ⟨_, _, _, _, hG, Acts.store ho hn hl hp hv hb (nrm_ovec (by rintro rfl; exact absurd hi (Nat.not_lt_zero _))) (by simp) (fun σ w hB => ?_)⟩
        obtain ⟨c, hc, hcl, hel⟩ := hB
        have hle : i * u.sz + u.sz ≤ c.size := by
         have : (i + 1) * u.sz ≤ xs.length * u.sz := Nat.mul_le_mul_right _ hi
         rw [Nat.succ_mul] at this
         omega
        refine ⟨c, e, hc, by omega, fun σ' w' c' vs hx hc' hvs hl' => ?_⟩
        have hvl : vs.length = n := by rw [← hvs.1, hl]
        have hsz' : c'.size = c.size := by
         have := congrArg List.length hl'
         simp at this
         omega
        refine ⟨c', hc', ?_, fun k y hk => ?_⟩
        ·rw [List.length_set, hsz']; exact hcl
        ·by_cases hki : i = k
         ·subst hki
          rw [List.getElem?_set_self hi] at hk
          injection hk with hk
          subst hk
          have hgd : xs.getD i u.dflt = xs[i] := by simp [List.getD_eq_getElem?_getD, List.getElem?_eq_getElem hi]
          rw [hgd] at hz
          have hold := rd_enc (σ := σ') u (rd_ext hx (hel i xs[i] (List.getElem?_eq_getElem hi)))
          have hnew := hold.putAt hvs j
          obtain ⟨h1, _, _⟩ := dec_rd u hz hnew
          have e1 := splice_in c.toList vs (i * u.sz) u.sz j (by omega) (by simp; omega)
          rw [hl', e1]
          exact h1
         ·rw [List.getElem?_set_ne hki] at hk
          have h1 := rd_ext hx (hel k y hk)
          have e1 := splice_off c.toList vs (i * u.sz) (k * u.sz) u.sz j (by omega) (by simp; omega) (by
           rcases Nat.lt_or_gt_of_ne hki with h | h
           ·right
            have := Nat.mul_le_mul_right u.sz (show i + 1 ≤ k from h)
            rw [Nat.succ_mul] at this
            exact this
           ·left
            have := Nat.mul_le_mul_right u.sz (show k + 1 ≤ i from h)
            rw [Nat.succ_mul] at this
            exact this)
          rw [hl', e1]
          exact h1
       ·exact hG.elim
      ·exact hG.elim
     ·exact hG.elim
    ·exact hG.elim

/-! the rest -/
theorem ok_conv {s d : TypeId} {x : Operand} (ho : o.op = .convert s d x) (hG : Good P S Q (aConv P s d (ev env x) H K)) : ∃ v H' rd wr, Good P S Q (K v H' rd wr) ∧ Acts P o env H v H' rd wr := by
 unfold aConv at hG
 split at hG
 ·exact hG.elim
 ·rename_i ds hs
  split at hG
  ·rename_i k k' n hd hx0
   have key : ∀ (σ : Sg) (G : Nat → AB) (a : Act) (w : World), (∀ x ∈ o.op.operands, CA σ w (ev env x) (a.eval x)) → inR k' n ∧ (execOp a.eval o).run P w = .ok (.value (.int k (k.wrap n))) w := fun σ G a w hx => by
    have hax := hx x (by rw [ho]; simp [Op.operands])
    rw [hx0] at hax
    obtain ⟨hax, hin⟩ := hax
    refine ⟨hin, ?_⟩
    simp only [execOp, ho, hax]
    have h1 := run_underlying_of (w := w) hs
    have h2 := run_underlying_of (w := w) hd
    cases ds <;> simp [convert, h1, h2, Conv.intToInt]
   split at hG
   ·rename_i hk
    refine ⟨_, _, _, _, hG, .pure fun σ G a w hx hg hr => ?_⟩
    obtain ⟨hin, hrun⟩ := key σ G a w hx
    have hin' : inR k n := by unfold inR at hin ⊢; omega
    rw [wrap_of hin'] at hrun
    exact ⟨_, hrun, rfl, hin'⟩
   ·refine ⟨_, _, _, _, hG, .pure fun σ G a w hx hg hr => ?_⟩
    obtain ⟨hin, hrun⟩ := key σ G a w hx
    exact ⟨_, hrun, rfl, wrap_within k n⟩
  ·rename_i b hd hx0
   split at hG
   ·refine ⟨_, _, _, _, hG, .pure fun σ G a w hx hg hr => ?_⟩
    have hax := hx x (by rw [ho]; simp [Op.operands])
    rw [hx0] at hax
    obtain ⟨hax, hsz⟩ := hax
    refine ⟨.string b, ?_, rfl, hsz⟩
    have h1 := run_underlying_of (w := w) hs
    have h2 := run_underlying_of (w := w) hd
    simp [execOp, ho, hax, convert, h1, h2]
   ·exact hG.elim
  ·exact hG.elim
theorem aCaps_ok {σ : Sg} {w : World} : ∀ (l : List AV) (vs : List Value) (g : CV) (f : Nat) (cs : Array Value) (r : CV), aCaps g l = some r → All2 (CA σ w) l vs → CC σ w g (.func (.func f) #[] cs) → CC σ w r (.func (.func f) #[] (cs ++ vs.toArray)) := by
 intro l
 induction l with
 | nil =>
  intro vs g f cs r h hl hg
  obtain rfl := hl.nil_of
  injection h with h
  subst h
  simpa using hg
 | cons x l ih =>
  intro vs g f cs r h hl hg
  obtain ⟨y, ys, rfl, hy, hl'⟩ := hl.cons_of
  clear hl
  match x, h, hy with
  | .one (.c v), h, hy =>
   have := ih ys (.fnc g v) f (cs.push y) r h hl' ⟨f, cs, y, rfl, hg, hy⟩
   simpa using this
theorem evs_ok {σ : Sg} {w : World} {a : Act} {xs : Array Operand} (hx : ∀ x ∈ xs.toList, CA σ w (ev env x) (a.eval x)) : All2 (CA σ w) (xs.toList.map (ev env)) (xs.map a.eval).toList := by
 refine ⟨by simp, fun i x y h1 h2 => ?_⟩
 simp only [Array.toList_map, List.getElem?_map] at h1 h2
 cases hp : xs.toList[i]? with
 | none => rw [hp] at h1; cases h1
 | some p =>
  rw [hp] at h1 h2
  simp at h1 h2
  subst h1; subst h2
  exact hx p (List.mem_of_getElem? hp)
theorem ok_makeFunc {f : Nat} {first caps : Array Operand} {g : CV} (ho : o.op = .makeFunc (.func f) first caps) (h0 : first.size = 0) (h : aCaps (.fn0 f) (caps.toList.map (ev env)) = some g) : Acts P o env H (.c g) H [] [] := .pure fun σ G a w hx hg hr => by
 obtain rfl : first = #[] := Array.eq_empty_of_size_eq_zero h0
 refine ⟨.func (.func f) #[] (caps.map a.eval), ?_, ?_⟩
 ·simp [execOp, ho, Instr.makeFunc]
 ·have := aCaps_ok (σ := σ) (w := w) _ (caps.map a.eval).toList _ f #[] g h (evs_ok fun x hx' => hx x (by rw [ho]; simp only [Op.operands]; simpa using hx')) rfl
  have e : #[] ++ (caps.map a.eval).toList.toArray = caps.map a.eval := by apply Array.toList_inj.1; simp
  rw [e] at this
  exact this
theorem ok_extract {x : Operand} {i : Nat} {l : List A1} {a1 : A1} (ho : o.op = .extract x i) (hv : ev env x = .tup l) (hi : l[i]? = some a1) : Acts P o env H (.one a1) H [] [] := .pure fun σ G a w hx hg hr => by
 have hax := hx x (by rw [ho]; simp [Op.operands])
 rw [hv] at hax
 obtain ⟨vs, hvs, h2⟩ := hax
 obtain ⟨y, hy, hr'⟩ := h2.get hi
 have hy' : vs[i]? = some y := by simpa using hy
 exact ⟨y, by simp [execOp, ho, hvs, Instr.extract, hy'], hr'⟩
theorem ok_fieldV {t : TypeId} {x : Operand} {f : Nat} (ho : o.op = .field t x f) (hG : Good P S Q (aField P t (ev env x) f H K)) : ∃ v H' rd wr, Good P S Q (K v H' rd wr) ∧ Acts P o env H v H' rd wr := by
 unfold aField at hG
 split at hG
 ·rename_i fd cs hfd hx0
  unfold fieldOf at hfd
  split at hfd
  ·rename_i fs hu
   split at hG
   ·rename_i a1 hp
    refine ⟨_, _, _, _, hG, .pure fun σ G a w hx hg hr => ?_⟩
    have hax := hx x (by rw [ho]; simp [Op.operands])
    rw [hx0] at hax
    obtain ⟨vs, hvs, hcs⟩ := hax
    obtain ⟨v, hrun, hv⟩ := partC_ok (w := w) hp hcs
    have hfs : fs[f]? = some fd := by simpa using hfd
    refine ⟨v, ?_, hv⟩
    simp [execOp, ho, hvs, Instr.field, run_underlying_of hu, hfs, asAgg, hrun]
   ·exact hG.elim
  ·cases hfd
 ·exact hG.elim
theorem ok_index {t : TypeId} {x y : Operand} (ho : o.op = .index t x y) (hG : Good P S Q (aIndex P t (ev env x) (ev env y) H K)) : ∃ v H' rd wr, Good P S Q (K v H' rd wr) ∧ Acts P o env H v H' rd wr := by
 unfold aIndex at hG
 split at hG
 ·rename_i k n hy
  split at hG
  ·rename_i s hu hx0
   obtain ⟨⟨h0, h1⟩, hG⟩ := hG
   refine ⟨_, _, _, _, hG, .pure fun σ G a w hx hg hr => ?_⟩
   have hax := hx x (by rw [ho]; simp [Op.operands])
   have hay := hx y (by rw [ho]; simp [Op.operands])
   rw [hx0] at hax
   rw [hy] at hay
   obtain ⟨hax, _⟩ := hax
   obtain ⟨hay, _⟩ := hay
   have hlt : n.toNat < s.size := by omega
   have hs : s[n.toNat]? = some s[n.toNat] := by simp [hlt]
   have hs! : s[n.toNat]! = s[n.toNat] := by simp [hlt]
   refine ⟨.int .u8 (s[n.toNat]).toNat, ?_, by rw [hs!], ?_⟩
   ·simp [execOp, ho, hax, hay, Instr.index, asIntOf, run_underlying_of hu, h0, hs]
   ·rw [hs!]
    have := (s[n.toNat]).toNat_lt
    simp [inR, IntKind.min, IntKind.max, IntKind.signed, IntKind.bits]
    omega
  ·rename_i len e cs hu hx0
   split at hG
   ·rename_i hsz hag
    split at hG
    ·rename_i hl
     obtain ⟨⟨h0, h1⟩, hG⟩ := hG
     refine ⟨_, _, _, _, hG, .pure fun σ G a w hx hg hr => ?_⟩
     have hax := hx x (by rw [ho]; simp [Op.operands])
     have hay := hx y (by rw [ho]; simp [Op.operands])
     rw [hx0] at hax
     rw [hy] at hay
     obtain ⟨vs, hvs, hcs⟩ := hax
     obtain ⟨hay, _⟩ := hay
     have hlt : n.toNat < cs.length := by omega
     obtain ⟨v, hv, hr'⟩ := hcs.get (List.getElem?_eq_getElem hlt)
     have hv' : vs[n.toNat]? = some v := by simpa using hv
     refine ⟨v, ?_, ?_⟩
     ·simp [execOp, ho, hvs, hay, Instr.index, asIntOf, run_underlying_of hu, h0, h1, run_sizeOf_of hsz, part, run_isAgg_of hag, hv']
     ·have : cs.getD n.toNat .junk = cs[n.toNat] := by simp [List.getD_eq_getElem?_getD, List.getElem?_eq_getElem hlt]
      rw [this]; exact hr'
    ·exact hG.elim
   ·exact hG.elim
  ·exact hG.elim
 ·exact hG.elim
theorem ok_len {c : Call} {t : TypeId} {x : Operand} (ho : o.op = .call c) (hc : c.callee = .builtin .len) (ht : c.argTypes.toList = [t]) (ha : c.args.toList = [x]) (hG : Good P S Q (aLen P t (ev env x) H K)) : ∃ v H' rd wr, Good P S Q (K v H' rd wr) ∧ Acts P o env H v H' rd wr := by
 obtain ⟨callee, args, argTypes⟩ := c
 simp only at hc ht ha
 subst hc
 obtain rfl : argTypes = #[t] := by apply Array.toList_inj.1; simpa using ht
 obtain rfl : args = #[x] := by apply Array.toList_inj.1; simpa using ha
 have run : ∀ (a : Act) (w : World) (r : Value), (Builtin.len_ #[t] o.type #[a.eval x]).run P w = .ok r w → (execOp a.eval o).run P w = .ok (.value r) w := fun a w r h => by
  simp only [execOp, ho, resolve]
  simp [invoke, builtin, h]
 have mx : x ∈ o.op.operands := by rw [ho]; simp [Op.operands, Call.operands]
 have i64 : ∀ n : Nat, n ≤ 9223372036854775807 → inR .i64 (n : Int) := fun n h => by simp [inR, IntKind.min, IntKind.max, IntKind.signed, IntKind.bits]; omega
 unfold aLen at hG
 split at hG
 ·rename_i s hu hx0
  refine ⟨_, _, _, _, hG, .pure fun σ G a w hx hg hr => ?_⟩
  have hax := hx x mx
  rw [hx0] at hax
  obtain ⟨hax, hs⟩ := hax
  exact ⟨_, run a w (.int .i64 s.size) (by simp [Builtin.len_, hax, run_underlying_of hu, goInt]), rfl, i64 _ hs⟩
 ·rename_i e d xs hu hx0
  refine ⟨_, _, _, _, hG, .pure fun σ G a w hx hg hr => ?_⟩
  have hax := hx x mx
  rw [hx0] at hax
  obtain ⟨A, c, hv, _, _, _, hC⟩ := hax
  injection hv with hv
  exact ⟨_, run a w (.int .i64 xs.length) (by simp [Builtin.len_, hv, run_underlying_of hu, goInt]), rfl, i64 _ hC.2.1⟩
 ·rename_i e b s i n hu hx0
  refine ⟨_, _, _, _, hG, .pure fun σ G a w hx hg hr => ?_⟩
  have hax := hx x mx
  rw [hx0] at hax
  obtain ⟨_, _, cap, _, _, _, hv, h1, h2, _⟩ := hax
  exact ⟨_, run a w (.int .i64 n) (by simp [Builtin.len_, hv, run_underlying_of hu, goInt]), rfl, i64 _ (by omega)⟩
 ·rename_i e b s n hu hx0
  refine ⟨_, _, _, _, hG, .pure fun σ G a w hx hg hr => ?_⟩
  have hax := hx x mx
  rw [hx0] at hax
  obtain ⟨_, _, cap, _, _, _, hv, h1, h2, _⟩ := hax
  exact ⟨_, run a w (.int .i64 n) (by simp [Builtin.len_, hv, run_underlying_of hu, goInt]), rfl, i64 _ (by omega)⟩
 ·rename_i e b s n hu hx0
  refine ⟨_, _, _, _, hG, .pure fun σ G a w hx hg hr => ?_⟩
  have hax := hx x mx
  rw [hx0] at hax
  by_cases hn : n = 0
  ·subst hn
   obtain ⟨A, hv⟩ := (CC.osl_zero (σ := σ) (w := w) (b := b) (s := s)).1 hax
   exact ⟨_, run a w (.int .i64 0) (by simp [Builtin.len_, hv, run_underlying_of hu, goInt]), rfl, i64 0 (by omega)⟩
  ·obtain ⟨_, _, cap, _, _, _, hv, h1, h2, _⟩ := (CC.osl_pos hn).1 hax
   exact ⟨_, run a w (.int .i64 n) (by simp [Builtin.len_, hv, run_underlying_of hu, goInt]), rfl, i64 _ (by omega)⟩
 ·rename_i e hu hx0
  refine ⟨_, _, _, _, hG, .pure fun σ G a w hx hg hr => ?_⟩
  have hax := hx x mx
  rw [hx0] at hax
  have hax : a.eval x = .slice none 0 0 := hax
  exact ⟨_, run a w (.int .i64 0) (by simp [Builtin.len_, hax, run_underlying_of hu, goInt]), rfl, i64 0 (by omega)⟩
 ·rename_i n e hu
  split at hG
  ·refine ⟨_, _, _, _, hG, .pure fun σ G a w hx hg hr => ?_⟩
   exact ⟨_, run a w (.int .i64 n) (by simp [Builtin.len_, run_underlying_of hu, goInt]), rfl, i64 _ (by omega)⟩
  ·exact hG.elim
 ·exact hG.elim
end
end Go.Proofs.YtkonkblfckhcbaaGreatDoor
namespace Go.Proofs.YtkonkblfckhcbaaGreatDoor
set_option linter.unusedVariables false
set_option linter.unusedSimpArgs false
open Go.RowKit

theorem CC.closed {σ : Sg} {w : World} {c : CV} : ∀ {v : Value}, c.closed = true → CC σ w c v → ∀ ι D, CC ⟨ι, D, σ.R, fun _ _ => False⟩ w c v := by
 induction c with
 | sl | osl | pre | ptr | map => intro v h; cases h
 | fnc g c ihg ihc =>
  intro v h hc ι D
  simp [CV.closed] at h
  obtain ⟨f, cs, u, h1, h2, h3⟩ := hc
  exact ⟨f, cs, u, h1, ihg h.1 h2 ι D, ihc h.2 h3 ι D⟩
 | _ => exact fun _ h _ _ => h
theorem CCs.closed {σ : Sg} {w : World} {cs : List CV} {vs : List Value} (h : cs.all CV.closed = true) (hc : CCs σ w cs vs) (ι : Nat → Nat) (D : Nat → Prop) : CCs ⟨ι, D, σ.R, fun _ _ => False⟩ w cs vs :=
 ⟨hc.1, fun i x y hx hy => CC.closed (List.all_eq_true.1 h x (List.mem_of_getElem? hx)) (hc.2 i x y hx hy) ι D⟩
theorem CA1.closed {σ : Sg} {w : World} {a : A1} {v : Value} (h : a.closed = true) (hc : CA1 σ w a v) (ι : Nat → Nat) (D : Nat → Prop) : CA1 ⟨ι, D, σ.R, fun _ _ => False⟩ w a v := by
 cases a with
 | c c => exact CC.closed (by simpa [A1.closed, A1.cells] using h) hc ι D
 | agg cs => obtain ⟨vs, e, h2⟩ := hc; exact ⟨vs, e, h2.closed h ι D⟩
theorem CA.closed {σ : Sg} {w : World} {a : AV} {v : Value} (h : a.closed = true) (hc : CA σ w a v) (ι : Nat → Nat) (D : Nat → Prop) : CA ⟨ι, D, σ.R, fun _ _ => False⟩ w a v := by
 cases a with
 | junk => trivial
 | one a => exact CA1.closed h hc ι D
 | tup l => obtain ⟨vs, e, h2⟩ := hc; exact ⟨vs, e, h2.1, fun i x y hx hy => CA1.closed (List.all_eq_true.1 h x (List.mem_of_getElem? hx)) (h2.2 i x y hx hy) ι D⟩
theorem CC.flat {σ : Sg} {w : World} {c : CV} : ∀ {v : Value}, c.flat = true → CC σ w c v → ∀ σ' w', CC σ' w' c v := by
 induction c with
 | sl | osl | pre | ptr | map | ro | pro => intro v h; cases h
 | fnc g c ihg ihc =>
  intro v h hc σ' w'
  simp [CV.flat] at h
  obtain ⟨f, cs, u, h1, h2, h3⟩ := hc
  exact ⟨f, cs, u, h1, ihg h.1 h2 σ' w', ihc h.2 h3 σ' w'⟩
 | _ => exact fun _ h _ _ => h
theorem CCs.flat {σ : Sg} {w : World} {cs : List CV} {vs : List Value} (h : cs.all CV.flat = true) (hc : CCs σ w cs vs) (σ' : Sg) (w' : World) : CCs σ' w' cs vs :=
 ⟨hc.1, fun i x y hx hy => CC.flat (List.all_eq_true.1 h x (List.mem_of_getElem? hx)) (hc.2 i x y hx hy) σ' w'⟩
theorem CA1.flat {σ : Sg} {w : World} {a : A1} {v : Value} (h : a.cells.all CV.flat = true) (hc : CA1 σ w a v) (σ' : Sg) (w' : World) : CA1 σ' w' a v := by
 cases a with
 | c c => exact CC.flat (by simpa [A1.cells] using h) hc σ' w'
 | agg cs => obtain ⟨vs, e, h2⟩ := hc; exact ⟨vs, e, h2.flat h σ' w'⟩
theorem CA.flat {σ : Sg} {w : World} {a : AV} {v : Value} (h : a.flat = true) (hc : CA σ w a v) (σ' : Sg) (w' : World) : CA σ' w' a v := by
 cases a with
 | junk => trivial
 | one a => exact CA1.flat h hc σ' w'
 | tup l => obtain ⟨vs, e, h2⟩ := hc; exact ⟨vs, e, h2.1, fun i x y hx hy => CA1.flat (List.all_eq_true.1 h x (List.mem_of_getElem? hx)) (h2.2 i x y hx hy) σ' w'⟩
/-- All of it is read from now on. -/
theorem at_read {R R' : Nat → Prop} {w : World} (hR : ∀ k, R k → R' k) (s : Sk) : ∀ {md : Nat → Md} {o : Nat} {x : s.ty.El} {cs : List Value} {ψ : Nat → Nat → Prop}, (∀ j, md j ≠ .apart) → (∀ j k, ψ j k → R' k) → s.At R w md o x cs ψ → s.ty.rd.K R' w x cs := by
 induction s with
 | int k => exact fun _ _ h => (rdI k).mono hR h
 | bool => exact fun _ _ h => Rd.bool.mono hR h
 | str => exact fun _ _ h => Rd.str.mono hR h
 | ro e => exact fun _ _ h => (Rd.slice e.rd).mono hR h
 | pair a b iha ihb =>
  intro md o x cs ψ hm hk h
  exact ⟨_, _, (List.take_append_drop _ _).symm, iha hm hk h.1, ihb hm hk h.2⟩
 | slice e s ih =>
  rintro md o x cs ψ hmd hk ⟨v, rfl, h⟩
  cases hm : md o <;> rw [hm] at h
  ·rcases h with ⟨rfl, A, rfl⟩ | ⟨hne, q, cap, c, rfl, h2, h3, h4, h5, h6, h7, χ, h8, h9, h10⟩
   ·exact ⟨A, 0, rfl, Nat.le_refl _, by omega, fun _ => rfl, Rd.C.nil _ _ _ _⟩
   ·refine ⟨some ⟨q, 0, none⟩, cap, rfl, h2, h3, by simp, rfl, by omega, fun _ => ⟨_, rfl, hk o q h7, (Array.getElem?_eq_some_iff.1 h5).1, fun i y hi => ⟨_, ih (fun j => by simp) (fun j k hc => hk o k (h8 i j k hc).1) (h10 i y hi), fun j u hj => ?_⟩⟩⟩
    rw [s.ty.rd_sz, add_eq rfl]
    rw [List.getElem?_take] at hj
    split at hj
    ·rw [List.getElem?_drop] at hj
     rw [cell_row h5]
     simpa using hj
    ·cases hj
  ·exact (Rd.slice s.ty.rd).mono hR h
  ·exact absurd hm (hmd o)
/-- A slice of the call's own, as one that is read. -/
theorem vec_reads {σ : Sg} {G : Nat → AB} {w : World} {b n : Nat} {e : TypeId} {t : Ty} {xs : List t.El} {v : Value} (hr : RelG σ G w) (hG : G b = .vec e t xs) (hn : n = xs.length) (h : CC σ w (.sl b t.sz 0 n) v) {l : List Nat} (hb : b ∈ l) : CC (fS σ G l) w (.ro t xs) v := by
 obtain ⟨hD, hs, cap, c, e', fr, rfl, h1, h2, h3, h4⟩ := h
 have hbk := hr.blk b (by rw [hG]; simp)
 rw [hG] at hbk
 obtain ⟨c2, hc2, hl, hel⟩ := hbk
 rw [h3] at hc2
 injection hc2 with hc2
 injection hc2 with e1 e2 e3
 subst e1; subst e2; subst e3; subst hn
 refine ⟨some ⟨σ.ι b, 0, none⟩, cap, by simp, h1, h2, by simp, rfl, by omega, fun hp => ⟨_, rfl, .inr ⟨b, hb, by rw [hG]; simp, .inl rfl⟩, (Array.getElem?_eq_some_iff.1 h3).1, fun i x hi => ⟨_, rd_ext fS_ext (hel i x hi), fun j u hj => ?_⟩⟩⟩
 rw [t.rd_sz, add_eq rfl]
 rw [List.getElem?_take] at hj
 split at hj
 ·rw [List.getElem?_drop] at hj
  rw [cell_row h3]
  simpa using hj
 ·cases hj

theorem nest_reads {σ : Sg} {G : Nat → AB} {w : World} {b n : Nat} {e : TypeId} {t : Sk} {xs : List t.ty.El} {ko : Option (Nat × Nat)} {hi : Nat} {v : Value} (hr : RelG σ G w) (hG : G b = .nest e t xs ko hi []) (hn : n = xs.length) (h : CC σ w (.sl b t.ty.sz 0 n) v) {l : List Nat} (hb : b ∈ l) : CC (fS σ G l) w (.ro t.ty xs) v := by
 obtain ⟨hD, hs, cap, c, e', fr, rfl, h1, h2, h3, h4⟩ := h
 have hbk := hr.blk b (by rw [hG]; simp)
 rw [hG] at hbk
 obtain ⟨c2, hc2, hl, χ, hx1, _, hel, _⟩ := hbk
 rw [h3] at hc2
 injection hc2 with hc2
 injection hc2 with e1 e2 e3
 subst e1; subst e2; subst e3; subst hn
 refine ⟨some ⟨σ.ι b, 0, none⟩, cap, by simp, h1, h2, by simp, rfl, by omega, fun hp => ⟨_, rfl, .inr ⟨b, hb, by rw [hG]; simp, .inl rfl⟩, (Array.getElem?_eq_some_iff.1 h3).1, fun i x hi' => ⟨_, at_read (R := σ.R) (R' := fR σ G l) (fun k hk => .inl hk) t (fun j => ?_) (fun j k hc => .inr ⟨b, hb, by rw [hG]; simp, .inr (hx1 i j k hc).1⟩) (hel i x hi'), fun j u hj => ?_⟩⟩⟩
 ·unfold mdOf
  rw [if_neg (by simp [holeAt])]
  cases ko with
  | none => simp
  | some p => simp only; split <;> simp
 ·rw [t.ty.rd_sz, add_eq rfl]
  rw [List.getElem?_take] at hj
  split at hj
  ·rw [List.getElem?_drop] at hj
   rw [cell_row h3]
   simpa using hj
  ·cases hj
theorem pre_reads {σ : Sg} {G : Nat → AB} {w : World} {b n : Nat} {e : TypeId} {t : Ty} {xs : List t.El} {v : Value} (hr : RelG σ G w) (hG : G b = .vec e t xs) (hn : n ≤ xs.length) (h : CC σ w (.pre b t.sz n) v) {l : List Nat} (hb : b ∈ l) : CC (fS σ G l) w (.ro t (xs.take n)) v := by
 obtain ⟨hD, hs, cap, c, e', fr, rfl, h1, h2, h3, h4⟩ := h
 have hbk := hr.blk b (by rw [hG]; simp)
 rw [hG] at hbk
 obtain ⟨c2, hc2, hl, hel⟩ := hbk
 rw [h3] at hc2
 injection hc2 with hc2
 injection hc2 with e1 e2 e3
 subst e1; subst e2; subst e3
 have hlen : (xs.take n).length = n := by rw [List.length_take]; omega
 refine ⟨some ⟨σ.ι b, 0, none⟩, cap, by rw [hlen], by omega, h2, by simp, rfl, by omega, fun hp => ⟨_, rfl, .inr ⟨b, hb, by rw [hG]; simp, .inl rfl⟩, (Array.getElem?_eq_some_iff.1 h3).1, fun i x hi => ?_⟩⟩
 rw [List.getElem?_take] at hi
 split at hi
 ·refine ⟨_, rd_ext fS_ext (hel i x hi), fun j u hj => ?_⟩
  rw [t.rd_sz, add_eq rfl]
  rw [List.getElem?_take] at hj
  split at hj
  ·rw [List.getElem?_drop] at hj
   rw [cell_row h3]
   simpa using hj
  ·cases hj
 ·cases hi
section
variable {P : Program} {S : List Item → List AV → List AB → Prop} {Q : AV → List AB → Prop} {oc : Orc} {o : Oper} {env : List AV} {H : List AB} {K : Kont}
theorem one_lt {b : Nat} {ab : AB} (h : H[b]? = some ab) : ∀ k ∈ [b], k < H.length := fun k hk => by
 obtain rfl : k = b := by simpa using hk
 exact (List.getElem?_eq_some_iff.1 h).1
theorem frzC_ok {c : CV} {K : CV → List Nat → Tree} (hG : Good P S Q (frzC H c K)) : ∃ c' l, Good P S Q (K c' l) ∧ (∀ b ∈ l, b < H.length) ∧ ∀ (σ : Sg) (G : Nat → AB) (w : World) (v : Value) (l' : List Nat), (∀ b ∈ l, b ∈ l') → (∀ b ∈ l', G b = gv H b) → RelG σ G w → CC (fS σ G l') w c v → CC (fS σ G l') w c' v := by
 unfold frzC at hG
 split at hG
 ·rename_i b s i n
  split at hG
  ·rename_i e t xs hb
   split at hG
   ·rename_i hs
    obtain ⟨⟨rfl, hn⟩, hG⟩ := hG
    subst hs
    refine ⟨_, _, hG, one_lt hb, fun σ G w v l' hl hg hr h => ?_⟩
    exact vec_reads hr (by rw [hg b (hl b (by simp))]; exact gv_of hb) hn h (hl b (by simp))
   ·exact hG.elim
  ·exact ⟨_, _, hG, fun b hb => (by cases hb), fun σ G w v l' hl hg hr h => h⟩
 ·rename_i b s n
  split at hG
  ·rename_i e t xs hb
   split at hG
   ·rename_i hs
    obtain ⟨hn, hG⟩ := hG
    subst hs
    refine ⟨_, _, hG, one_lt hb, fun σ G w v l' hl hg hr h => ?_⟩
    exact pre_reads hr (by rw [hg b (hl b (by simp))]; exact gv_of hb) hn h (hl b (by simp))
   ·exact hG.elim
  ·exact ⟨_, _, hG, fun b hb => (by cases hb), fun σ G w v l' hl hg hr h => h⟩
 ·rename_i b s n
  split at hG
  ·rename_i e t xs hb
   split at hG
   ·rename_i hs
    obtain ⟨hn, hG⟩ := hG
    subst hs
    refine ⟨_, _, hG, one_lt hb, fun σ G w v l' hl hg hr h => ?_⟩
    by_cases hx : xs = []
    ·subst hx
     obtain rfl : n = 0 := hn
     obtain ⟨A, rfl⟩ := CC.osl_zero.1 h
     exact ⟨A, 0, rfl, Nat.le_refl _, by omega, fun _ => rfl, Rd.C.nil _ _ _ _⟩
    ·exact vec_reads hr (by rw [hg b (hl b (by simp))]; exact gv_ovec hb hx) hn ((CC.osl_pos (by rw [hn]; exact fun h0 => hx (List.eq_nil_of_length_eq_zero h0))).1 h) (hl b (by simp))
   ·exact hG.elim
  ·rename_i e t xs ko hi hs hb
   split at hG
   ·rename_i hc
    obtain ⟨hs0, hs1⟩ := hc
    obtain ⟨hn, hG⟩ := hG
    subst hs0
    obtain rfl : hs = [] := by simpa using hs1
    refine ⟨_, _, hG, one_lt hb, fun σ G w v l' hl hg hr h => ?_⟩
    by_cases hx : xs = []
    ·subst hx
     obtain rfl : n = 0 := hn
     obtain ⟨A, rfl⟩ := CC.osl_zero.1 h
     exact ⟨A, 0, rfl, Nat.le_refl _, by omega, fun _ => rfl, Rd.C.nil _ _ _ _⟩
    ·exact nest_reads hr (by rw [hg b (hl b (by simp))]; exact gv_nest hb hx) hn ((CC.osl_pos (by rw [hn]; exact fun h0 => hx (List.eq_nil_of_length_eq_zero h0))).1 h) (hl b (by simp))
   ·exact hG.elim
  ·exact ⟨_, _, hG, fun b hb => (by cases hb), fun σ G w v l' hl hg hr h => h⟩
 ·exact ⟨_, _, hG, fun b hb => (by cases hb), fun σ G w v l' hl hg hr h => h⟩
theorem frzCs_ok : ∀ {cs : List CV} {K : List CV → List Nat → Tree}, Good P S Q (frzCs H cs K) → ∃ cs' l, Good P S Q (K cs' l) ∧ (∀ b ∈ l, b < H.length) ∧ ∀ (σ : Sg) (G : Nat → AB) (w : World) (vs : List Value) (l' : List Nat), (∀ b ∈ l, b ∈ l') → (∀ b ∈ l', G b = gv H b) → RelG σ G w → CCs (fS σ G l') w cs vs → CCs (fS σ G l') w cs' vs := by
 intro cs
 induction cs with
 | nil => intro K hG; exact ⟨_, _, hG, fun b hb => (by cases hb), fun σ G w vs l' _ _ _ h => by rw [h.nil_of]; exact .nil⟩
 | cons c r ih =>
  intro K hG
  unfold frzCs at hG
  obtain ⟨c', l, hG, hlt, hc⟩ := frzC_ok hG
  obtain ⟨r', l2, hG, hlt2, hr⟩ := ih hG
  refine ⟨_, _, hG, fun b hb => (List.mem_append.1 hb).elim (hlt b) (hlt2 b), fun σ G w vs l' hl hg hrel h => ?_⟩
  obtain ⟨v, vs', rfl, hv, hvs⟩ := h.cons_of
  exact .cons (hc σ G w v l' (fun b hb => hl b (by simp [hb])) hg hrel hv) (hr σ G w vs' l' (fun b hb => hl b (by simp [hb])) hg hrel hvs)
theorem frz1_ok {a : A1} {K : A1 → List Nat → Tree} (hG : Good P S Q (frz1 H a K)) : ∃ a' l, Good P S Q (K a' l) ∧ (∀ b ∈ l, b < H.length) ∧ ∀ (σ : Sg) (G : Nat → AB) (w : World) (v : Value) (l' : List Nat), (∀ b ∈ l, b ∈ l') → (∀ b ∈ l', G b = gv H b) → RelG σ G w → CA1 (fS σ G l') w a v → CA1 (fS σ G l') w a' v := by
 unfold frz1 at hG
 split at hG
 ·obtain ⟨c', l, hG, hlt, hc⟩ := frzC_ok hG
  exact ⟨_, _, hG, hlt, fun σ G w v l' hl hg hr h => hc σ G w v l' hl hg hr h⟩
 ·obtain ⟨c', l, hG, hlt, hc⟩ := frzCs_ok hG
  refine ⟨_, _, hG, hlt, fun σ G w v l' hl hg hr h => ?_⟩
  obtain ⟨vs, e, h⟩ := h
  exact ⟨vs, e, hc σ G w _ l' hl hg hr h⟩
theorem frz1s_ok : ∀ {cs : List A1} {K : List A1 → List Nat → Tree}, Good P S Q (frz1s H cs K) → ∃ cs' l, Good P S Q (K cs' l) ∧ (∀ b ∈ l, b < H.length) ∧ ∀ (σ : Sg) (G : Nat → AB) (w : World) (vs : List Value) (l' : List Nat), (∀ b ∈ l, b ∈ l') → (∀ b ∈ l', G b = gv H b) → RelG σ G w → All2 (CA1 (fS σ G l') w) cs vs → All2 (CA1 (fS σ G l') w) cs' vs := by
 intro cs
 induction cs with
 | nil => intro K hG; exact ⟨_, _, hG, fun b hb => (by cases hb), fun σ G w vs l' _ _ _ h => by rw [h.nil_of]; exact .nil⟩
 | cons c r ih =>
  intro K hG
  unfold frz1s at hG
  obtain ⟨c', l, hG, hlt, hc⟩ := frz1_ok hG
  obtain ⟨r', l2, hG, hlt2, hr⟩ := ih hG
  refine ⟨_, _, hG, fun b hb => (List.mem_append.1 hb).elim (hlt b) (hlt2 b), fun σ G w vs l' hl hg hrel h => ?_⟩
  obtain ⟨v, vs', rfl, hv, hvs⟩ := h.cons_of
  exact .cons (hc σ G w v l' (fun b hb => hl b (by simp [hb])) hg hrel hv) (hr σ G w vs' l' (fun b hb => hl b (by simp [hb])) hg hrel hvs)
theorem frzA_ok {a : AV} {K : AV → List Nat → Tree} (hG : Good P S Q (frzA H a K)) : ∃ a' l, Good P S Q (K a' l) ∧ (∀ b ∈ l, b < H.length) ∧ ∀ (σ : Sg) (G : Nat → AB) (w : World) (v : Value) (l' : List Nat), (∀ b ∈ l, b ∈ l') → (∀ b ∈ l', G b = gv H b) → RelG σ G w → CA (fS σ G l') w a v → CA (fS σ G l') w a' v := by
 unfold frzA at hG
 split at hG
 ·obtain ⟨c', l, hG, hlt, hc⟩ := frz1_ok hG
  exact ⟨_, _, hG, hlt, fun σ G w v l' hl hg hr h => hc σ G w v l' hl hg hr h⟩
 ·obtain ⟨c', l, hG, hlt, hc⟩ := frz1s_ok hG
  refine ⟨_, _, hG, hlt, fun σ G w v l' hl hg hr h => ?_⟩
  obtain ⟨vs, e, h⟩ := h
  exact ⟨vs, e, hc σ G w _ l' hl hg hr h⟩
 ·exact ⟨_, _, hG, fun b hb => (by cases hb), fun σ G w v l' hl hg hr h => trivial⟩
theorem frzAs_ok : ∀ {cs : List AV} {K : List AV → List Nat → Tree}, Good P S Q (frzAs H cs K) → ∃ cs' l, Good P S Q (K cs' l) ∧ (∀ b ∈ l, b < H.length) ∧ ∀ (σ : Sg) (G : Nat → AB) (w : World) (vs : List Value) (l' : List Nat), (∀ b ∈ l, b ∈ l') → (∀ b ∈ l', G b = gv H b) → RelG σ G w → All2 (CA (fS σ G l') w) cs vs → All2 (CA (fS σ G l') w) cs' vs := by
 intro cs
 induction cs with
 | nil => intro K hG; exact ⟨_, _, hG, fun b hb => (by cases hb), fun σ G w vs l' _ _ _ h => by rw [h.nil_of]; exact .nil⟩
 | cons c r ih =>
  intro K hG
  unfold frzAs at hG
  obtain ⟨c', l, hG, hlt, hc⟩ := frzA_ok hG
  obtain ⟨r', l2, hG, hlt2, hr⟩ := ih hG
  refine ⟨_, _, hG, fun b hb => (List.mem_append.1 hb).elim (hlt b) (hlt2 b), fun σ G w vs l' hl hg hrel h => ?_⟩
  obtain ⟨v, vs', rfl, hv, hvs⟩ := h.cons_of
  exact .cons (hc σ G w v l' (fun b hb => hl b (by simp [hb])) hg hrel hv) (hr σ G w vs' l' (fun b hb => hl b (by simp [hb])) hg hrel hvs)
/-- Some of a frame's entries, given up to be read. -/
theorem frzTs_ok : ∀ {ts : List Nat} {env : List AV} {K : List AV → List Nat → Tree}, Good P S Q (frzTs H ts env K) → ∃ env' l, Good P S Q (K env' l) ∧ (∀ b ∈ l, b < H.length) ∧ ∀ (σ : Sg) (G : Nat → AB) (w : World) (l' : List Nat), (∀ b ∈ l, b ∈ l') → (∀ b ∈ l', G b = gv H b) → RelG σ G w → ∀ t v, CA (fS σ G l') w (env.getD t .junk) v → CA (fS σ G l') w (env'.getD t .junk) v := by
 intro ts
 induction ts with
 | nil => intro env K hG; exact ⟨_, _, hG, fun b hb => (by cases hb), fun σ G w l' _ _ _ t v h => h⟩
 | cons t0 r ih =>
  intro env K hG
  unfold frzTs at hG
  obtain ⟨v0, l, hG, hlt, hv⟩ := frzA_ok hG
  obtain ⟨env', l2, hG, hlt2, he⟩ := ih hG
  refine ⟨_, _, hG, fun b hb => (List.mem_append.1 hb).elim (hlt b) (hlt2 b), fun σ G w l' hl hg hrel t v h => ?_⟩
  refine he σ G w l' (fun b hb => hl b (by simp [hb])) hg hrel t v ?_
  by_cases ht : t0 = t
  ·subst ht
   by_cases hlt0 : t0 < env.length
   ·have e1 : (env.set t0 v0).getD t0 .junk = v0 := by simp [List.getD_eq_getElem?_getD, hlt0]
    rw [e1]
    exact hv σ G w v l' (fun b hb => hl b (by simp [hb])) hg hrel h
   ·have e1 : (env.set t0 v0).getD t0 .junk = .junk := by
     rw [List.getD_eq_getElem?_getD, List.getElem?_eq_none (by rw [List.length_set]; omega)]; rfl
    rw [e1]; trivial
  ·have e1 : (env.set t0 v0).getD t .junk = env.getD t .junk := by simp [List.getD_eq_getElem?_getD, List.getElem?_set_ne ht]
   rw [e1]; exact h
theorem killL_len : ∀ (l : List Nat) (H : List AB), (killL l H).length = H.length
 | [], _ => rfl
 | b :: r, H => by simp [killL, killL_len r]
theorem gv_kill_off : ∀ {l : List Nat} {H : List AB} {b : Nat}, b ∉ l → gv (killL l H) b = gv H b
 | [], _, _, _ => rfl
 | c :: r, H, b, h => by
  have h1 : b ≠ c := fun e => h (by simp [e])
  have h2 : b ∉ r := fun e => h (by simp [e])
  rw [killL, gv_kill_off h2]
  simp [gv, List.getD_eq_getElem?_getD, List.getElem?_set_ne (Ne.symm h1)]
theorem gv_kill : ∀ {l : List Nat} {H : List AB} {b : Nat}, b ∈ l → gv (killL l H) b = .dead
 | [], _, _, h => by cases h
 | c :: r, H, b, h => by
  by_cases h2 : b ∈ r
  ·rw [killL]; exact gv_kill h2
  ·obtain rfl : b = c := by simpa [h2] using h
   rw [killL, gv_kill_off h2]
   by_cases hl : b < H.length
   ·simp [gv, List.getD_eq_getElem?_getD, hl, nrm]
   ·exact gv_none (List.getElem?_eq_none (by rw [List.length_set]; omega))
/-- An operation whose operands are given up to be read first. -/
theorem Acts.frz {env' : List AV} {H' : List AB} {v : AV} {rd wr l : List Nat} (h : Acts P o env' (killL l H) v H' rd wr) (hlt : ∀ b ∈ l, b < H.length)
  (he : ∀ (σ : Sg) (G : Nat → AB) (w : World), (∀ b ∈ l, G b = gv H b) → RelG σ G w → ∀ (a : Act), (∀ x ∈ o.op.operands, CA σ w (ev env x) (a.eval x)) → ∀ x ∈ o.op.operands, CA (fS σ G l) w (ev env' x) (a.eval x)) : Acts P o env H v H' (l ++ rd) (l ++ wr) where
 len := by have := h.len; rwa [killL_len] at this
 lt := fun b hb => by
  rcases List.mem_append.1 hb with hb | hb
  ·have := h.len; rw [killL_len] at this; exact Nat.lt_of_lt_of_le (hlt b hb) this
  ·exact h.lt b hb
 off := fun b hb => by
  rw [h.off b (fun h => hb (List.mem_append_right _ h)), gv_kill_off (fun h => hb (List.mem_append_left _ h))]
 act := fun σ G a w hx hg hD hr => by
  have hs := Stp.frz (G' := fun _ => .dead) (l := l) hr (fun _ _ => rfl)
  have hr1 := hs.rel hr
  have hg1 : ∀ b, b ∈ rd ∨ b ∈ wr → updG G l (fun _ => .dead) b = gv (killL l H) b := fun b hb => by
   unfold updG
   split
   ·rename_i hm; rw [gv_kill hm]
   ·rename_i hm; rw [gv_kill_off hm]; exact hg b (hb.imp (List.mem_append_right _) (List.mem_append_right _))
  have hD1 : ∀ b ∈ wr, (killL l H).length ≤ b → ¬ (fSD σ G l).D b := fun b hb hl hd => by
   rw [killL_len] at hl
   rcases hd with hd | hd
   ·exact hD b (List.mem_append_right _ hb) hl hd
   ·have := hlt b hd; omega
  have hx1 : ∀ x ∈ o.op.operands, CA (fSD σ G l) w (ev env' x) (a.eval x) := fun x hxm => (he σ G w (fun b hb => hg b (.inl (List.mem_append_left _ hb))) hr a hx x hxm).ext fSD_ext
  refine (h.act (fSD σ G l) _ a w hx1 hg1 hD1 hr1).mono fun x w' ⟨σ', hs2, hv⟩ => ⟨σ', ?_, hv⟩
  refine (Stp.trans hr hs hs2).congr fun b hb => ?_
  unfold updG
  split
  ·rfl
  ·rename_i hm
   have hb1 : b ∈ l := (List.mem_append.1 hb).resolve_right hm
   rw [if_pos hb1, h.off b hm, gv_kill hb1]
theorem frzTs_ev {env env' : List AV} {l : List Nat} (he : ∀ (σ : Sg) (G : Nat → AB) (w : World) (l' : List Nat), (∀ b ∈ l, b ∈ l') → (∀ b ∈ l', G b = gv H b) → RelG σ G w → ∀ t v, CA (fS σ G l') w (env.getD t .junk) v → CA (fS σ G l') w (env'.getD t .junk) v)
  (σ : Sg) (G : Nat → AB) (w : World) (hg : ∀ b ∈ l, G b = gv H b) (hr : RelG σ G w) (a : Act) (hx : ∀ x ∈ o.op.operands, CA σ w (ev env x) (a.eval x)) : ∀ x ∈ o.op.operands, CA (fS σ G l) w (ev env' x) (a.eval x) := fun x hxm => by
 have h := (hx x hxm).ext (fS_ext (l := l) (G := G))
 cases x with
 | tmp t => exact he σ G w l (fun _ h => h) hg hr t _ h
 | const v => exact h
 | global g => exact h
 | func f => exact h
theorem OpTo.callTo {a : Act} {w : World} {N : Value → World → Prop} {f : Nat} {args : Array Value} (h : (execOp a.eval o).run P w = (callFunc f args).run P w) (hc : CallTo P f args w N) : OpTo P o a w N := by
 rcases hc with ⟨h1, h2⟩ | ⟨v, w', h1, h2⟩
 ·exact .enter (h.trans h1) h2
 ·exact .value (h.trans h1) h2
theorem RelG.sub {σ : Sg} {G G' : Nat → AB} {w : World} (h : RelG σ G w) (hg : ∀ b, G' b ≠ .dead → G b = G' b) : RelG σ G' w where
 dom := fun b hb => h.dom b (by rw [hg b hb]; exact hb)
 blk := fun b hb => by have := h.blk b (by rw [hg b hb]; exact hb); rwa [hg b hb] at this
 injF := fun b b' hb hb' k e => h.injF b b' (by rw [hg b hb]; exact hb) (by rw [hg b' hb']; exact hb') k e
 outF := fun b hb => h.outF b (by rw [hg b hb]; exact hb)
 rlt := h.rlt
 glob := h.glob
 flt := fun b hb => h.flt b (by rw [hg b hb]; exact hb)
theorem Stp.of_sub {σ σ' : Sg} {G G0 G' : Nat → AB} {w w' : World} {wr : List Nat} (h : Stp σ G0 w wr G' σ' w') (hg : ∀ b ∈ wr, G b = G0 b) : Stp σ G w wr G' σ' w' := by
 have e : fpOf σ G0 wr = fpOf σ G wr := by
  funext k
  apply propext
  constructor
  ·rintro ⟨b, hb, h1, h2⟩; exact ⟨b, hb, by rw [hg b hb]; exact h1, h2⟩
  ·rintro ⟨b, hb, h1, h2⟩; exact ⟨b, hb, by rw [← hg b hb]; exact h1, h2⟩
 obtain ⟨a1, a2, a3, a4, a5, a6, a7, a8, a9, a10, a11⟩ := h
 exact ⟨a1, a2, e ▸ a3, a4, e ▸ a5, a6, e ▸ a7, a8, a9, a10, a11⟩
/-- A call. -/
theorem ok_aCall {f : Nat} {args : List AV} (hG : Good P S Q (aCall oc f args H K))
  (hrun : ∀ (σ : Sg) (a : Act) (w : World), (∀ x ∈ o.op.operands, CA σ w (ev env x) (a.eval x)) → ∃ vs : List Value, All2 (CA σ w) args vs ∧ (execOp a.eval o).run P w = (callFunc f vs.toArray).run P w) : ∃ v H' rd wr, Good P S Q (K v H' rd wr) ∧ Acts P o env H v H' rd wr := by
 unfold aCall at hG
 obtain ⟨args', l, hG, hlt, hf⟩ := frzAs_ok hG
 split at hG
 ·rename_i hcl
  split at hG
  case h_2 =>
   split at hG
   case h_2 => exact hG.elim
   obtain ⟨hfun, hG⟩ := hG
   refine ⟨_, _, _, _, hG, hfun.len, hfun.lt, hfun.off, fun σ G a w hx hg hD hr => ?_⟩
   obtain ⟨vs, hvs, hrun⟩ := hrun σ a w hx
   have hsub : RelG σ (gv H) w := hr.sub fun b hb => by
    refine hg b (.inl ?_)
    rw [List.mem_range]
    rcases Nat.lt_or_ge b H.length with h | h
    ·exact h
    ·exact absurd (gv_none (List.getElem?_eq_none h)) hb
   exact (OpTo.callTo hrun (hfun.act σ w vs hsub hD hvs)).mono fun v w' ⟨σ', hs, hv⟩ => ⟨σ', hs.of_sub (fun b hb => hg b (.inr hb)), hv⟩
  rename_i r _
  split at hG
  case isFalse =>
   obtain ⟨⟨args2, hle, hfun⟩, _, hG⟩ := hG
   refine ⟨_, _, _, _, hG, by rw [killL_len]; exact Nat.le_refl _, fun b hb => by rw [killL_len]; exact hlt b hb, fun b hb => gv_kill_off hb, fun σ G a w hx hg hD hr => ?_⟩
   obtain ⟨vs, hvs, hrun⟩ := hrun σ a w hx
   have h1 := hf σ G w vs l (fun b hb => hb) (fun b hb => hg b (.inl hb)) hr (hvs.mono fun _ _ h => h.ext fS_ext)
   have h2 : All2 (CA ⟨id, fun _ => False, fR σ G l, fun _ _ => False⟩ w) args2 vs := ⟨hle.1.symm.trans h1.1, fun i x y hx hy => by
    obtain ⟨x', hx'⟩ : ∃ x', args'[i]? = some x' := ⟨_, List.getElem?_eq_getElem (by rw [hle.1]; exact (List.getElem?_eq_some_iff.1 hx).1)⟩
    exact hle.2 i x' x hx' hx _ _ _ (CA.closed (σ := fS σ G l) (List.all_eq_true.1 hcl x' (List.mem_of_getElem? hx')) (h1.2 i x' y hx' hy) id (fun _ => False))⟩
   have hs := Stp.frz (G' := fun _ => .dead) (l := l) hr (fun _ _ => rfl)
   have hr1 := hs.rel hr
   have h3 := hfun (fR σ G l) w vs hr1.rlt hr1.glob h2
   refine (OpTo.callTo hrun h3).mono fun v w' ⟨hb, hv⟩ => ?_
   have hs2 := Stp.quiet (σ := fSD σ G l) (σ' := ⟨σ.ι, fun b => σ.D b ∨ b ∈ l, fun k => fR σ G l k ∨ (w.heap.size ≤ k ∧ k < w'.heap.size), σ.F⟩) (G := updG G l fun _ => .dead) (w := w) (w' := w') (fun _ => Iff.rfl) rfl rfl (fun k h => .inl h) hb (fun k h => h.imp id (·.1)) (fun k h => by
    rcases h with h | h
    ·exact Nat.lt_of_lt_of_le (hr1.rlt k h) hb.size
    ·exact h.2)
   have hst := Stp.trans hr hs hs2
   rw [List.append_nil] at hst
   refine ⟨_, hst.congr (fun b hb => ?_), ?_⟩
   ·rw [gv_kill hb]; simp [updG, hb]
   ·have e : Ext ⟨id, fun _ => False, fun k => fR σ G l k ∨ (w.heap.size ≤ k ∧ k < w'.heap.size), fun _ _ => False⟩ w' ⟨σ.ι, fun b => σ.D b ∨ b ∈ l, fun k => fR σ G l k ∨ (w.heap.size ≤ k ∧ k < w'.heap.size), σ.F⟩ w' :=
     ⟨fun k (h : False) => h.elim, fun k h => h, fun _ _ _ => rfl, fun k c e fr h => ⟨c, fr, h, rfl⟩⟩
    exact hv.ext e
  obtain ⟨⟨args2, hle, hfun⟩, hflat, hG⟩ := hG
  refine ⟨_, _, _, _, hG, Nat.le_refl _, fun b hb => (by cases hb), fun b _ => rfl, fun σ G a w hx hg hD hr => ?_⟩
  obtain ⟨vs, hvs, hrun⟩ := hrun σ a w hx
  have h1 := hf σ G w vs l (fun b hb => hb) (fun b hb => hg b (.inl hb)) hr (hvs.mono fun _ _ h => h.ext fS_ext)
  have h2 : All2 (CA ⟨id, fun _ => False, fR σ G l, fun _ _ => False⟩ w) args2 vs := ⟨hle.1.symm.trans h1.1, fun i x y hx hy => by
   obtain ⟨x', hx'⟩ : ∃ x', args'[i]? = some x' := ⟨_, List.getElem?_eq_getElem (by rw [hle.1]; exact (List.getElem?_eq_some_iff.1 hx).1)⟩
   exact hle.2 i x' x hx' hx _ _ _ (CA.closed (σ := fS σ G l) (List.all_eq_true.1 hcl x' (List.mem_of_getElem? hx')) (h1.2 i x' y hx' hy) id (fun _ => False))⟩
  have h3 := hfun (fR σ G l) w vs (fun k hk => by
   rcases hk with hk | ⟨b, hb, ha, e⟩
   ·exact hr.rlt k hk
   ·exact hr.ltF ha e) (hr.glob.mono fun k h => .inl h) h2
  refine (OpTo.callTo hrun h3).mono fun v w' ⟨hb, hv⟩ => ?_
  refine ⟨⟨σ.ι, σ.D, fun k => σ.R k ∨ (w.heap.size ≤ k ∧ k < w'.heap.size), σ.F⟩, Stp.of_sub (G0 := gv H) ?_ (fun b hb => by cases hb), ?_⟩
  ·have := Stp.quiet (σ := σ) (σ' := ⟨σ.ι, σ.D, fun k => σ.R k ∨ (w.heap.size ≤ k ∧ k < w'.heap.size), σ.F⟩) (G := gv H) (w := w) (w' := w') (fun _ => Iff.rfl) rfl rfl (fun k h => .inl h) hb (fun k h => h.imp id (·.1)) (fun k h => by
    rcases h with h | h
    ·exact Nat.lt_of_lt_of_le (hr.rlt k h) hb.size
    ·exact h.2)
   exact this
  ·by_cases hl : l = []
   ·subst hl
    have e : Ext ⟨id, fun _ => False, fun k => fR σ G [] k ∨ (w.heap.size ≤ k ∧ k < w'.heap.size), fun _ _ => False⟩ w' ⟨σ.ι, σ.D, fun k => σ.R k ∨ (w.heap.size ≤ k ∧ k < w'.heap.size), σ.F⟩ w' :=
     ⟨fun k h => h.elim, fun k h => by
      rcases h with (h | ⟨b, hb, _⟩) | h
      ·exact .inl h
      ·cases hb
      ·exact .inr h, fun _ _ _ => rfl, fun k c e fr h => ⟨c, fr, h, rfl⟩⟩
    exact hv.ext e
   ·exact CA.flat (hflat (by cases l <;> simp_all)) hv _ _
 ·split at hG
  case h_2 => exact hG.elim
  obtain ⟨hfun, hG⟩ := hG
  refine ⟨_, _, _, _, hG, hfun.len, hfun.lt, hfun.off, fun σ G a w hx hg hD hr => ?_⟩
  obtain ⟨vs, hvs, hrun⟩ := hrun σ a w hx
  have hsub : RelG σ (gv H) w := hr.sub fun b hb => by
   refine hg b (.inl ?_)
   rw [List.mem_range]
   rcases Nat.lt_or_ge b H.length with h | h
   ·exact h
   ·exact absurd (gv_none (List.getElem?_eq_none h)) hb
  refine (OpTo.callTo hrun (hfun.act σ w vs hsub hD hvs)).mono fun v w' ⟨σ', hs, hv⟩ => ⟨σ', hs.of_sub (fun b hb => hg b (.inr hb)), hv⟩
theorem fnOf_ok {σ : Sg} {w : World} : ∀ {c : CV} {n : Nat} {l : List AV} {v : Value}, fnOf c = some (n, l) → CC σ w c v → ∃ caps, v = .func (.func n) #[] caps ∧ All2 (CA σ w) l caps.toList := by
 intro c
 induction c with
 | fn0 f =>
  intro n l v h hc
  injection h with h
  injection h with h1 h2
  subst h1; subst h2
  exact ⟨#[], hc, .nil⟩
 | fnc g c ihg _ =>
  intro n l v h hc
  simp only [fnOf] at h
  split at h
  ·rename_i f l' hg
   injection h with h
   injection h with h1 h2
   subst h1; subst h2
   obtain ⟨f', cs, u, rfl, h3, h4⟩ := hc
   obtain ⟨caps, e, h5⟩ := ihg hg h3
   injection e with e1 e2 e3
   injection e1 with e1
   subst e1; subst e3
   exact ⟨_, rfl, by rw [Array.toList_push]; exact h5.app (.cons h4 .nil)⟩
  ·cases h
 | _ => intro n l v h; cases h
theorem ok_call {c : Call} {f : Operand} {g : CV} {n : Nat} {caps : List AV} (ho : o.op = .call c) (hc : c.callee = .value f) (hv : ev env f = .c g) (hg : fnOf g = some (n, caps)) (hG : Good P S Q (aCall oc n ((c.args.toList.map (ev env)) ++ caps) H K)) : ∃ v H' rd wr, Good P S Q (K v H' rd wr) ∧ Acts P o env H v H' rd wr := by
 obtain ⟨callee, args, argTypes⟩ := c
 simp only at hc hG
 subst hc
 refine ok_aCall hG fun σ a w hx => ?_
 have hf := hx f (by rw [ho]; simp [Op.operands, Call.operands])
 rw [hv] at hf
 obtain ⟨cv, e, hcv⟩ := fnOf_ok hg hf
 have ha := evs_ok (env := env) (σ := σ) (w := w) (a := a) (xs := args) (fun x hx' => hx x (by rw [ho]; simp only [Op.operands, Call.operands]; simp at hx'; simp [hx']))
 refine ⟨(args.map a.eval).toList ++ cv.toList, ha.app hcv, ?_⟩
 simp only [execOp, ho, resolve, e, Deferred.ofValue]
 simp only [invoke, Sem.run_bind, Sem.run_pure, Result.andThen_ok]
 congr 2
 apply Array.toList_inj.1
 simp

theorem repC_get (z : List CV) (hz : 0 < z.length) : ∀ (len k : Nat), (repC z len)[k]? = if k < len * z.length then z[k % z.length]? else none := by
 intro len
 induction len with
 | zero => intro k; simp [repC]
 | succ len ih =>
  intro k
  simp only [repC]
  rcases Nat.lt_or_ge k z.length with h | h
  ·rw [List.getElem?_append_left h, if_pos (by rw [Nat.succ_mul]; omega), Nat.mod_eq_of_lt h]
  ·rw [List.getElem?_append_right h, ih]
   have e : (k - z.length) % z.length = k % z.length := by rw [← Nat.mod_eq_sub_mod h]
   rw [e, Nat.succ_mul]
   by_cases hk : k - z.length < len * z.length
   ·rw [if_pos hk, if_pos (by omega)]
   ·rw [if_neg hk, if_neg (by omega)]
theorem rep_ok {σ : Sg} {w : World} {z : List CV} {zv : Array Value} (h : CCs σ w z zv.toList) (hz : 0 < z.length) (len : Nat) : CCs σ w (repC z len) (Array.map (fun x => zv[x % zv.size]!) (Array.range (len * zv.size))).toList := by
 have hl : z.length = zv.size := by simpa using h.1
 have hlen : (repC z len).length = len * z.length := by
  clear h hl
  induction len with
  | zero => simp [repC]
  | succ n ih => simp [repC, ih, Nat.succ_mul, Nat.add_comm]
 refine ⟨by rw [hlen, hl]; simp, fun i x y hx hy => ?_⟩
 rw [repC_get z hz] at hx
 split at hx
 ·rename_i hi
  have hm : i % zv.size < zv.size := Nat.mod_lt _ (by omega)
  have hy' : y = zv[i % zv.size] := by
   simp only [Array.toList_map, List.getElem?_map] at hy
   rw [Array.getElem?_toList] at hy
   rw [hl] at hi
   simp [hi, hm] at hy
   exact hy.symm
  rw [hl] at hx
  refine h.2 (i % zv.size) x y hx ?_
  rw [hy']
  simp [hm]
 ·cases hx
theorem fillC_len (place : Nat → Option (Nat × Nat)) : ∀ (parts : List (Nat × AV)) (cs out : List CV), fillC place cs parts = some out → out.length = cs.length := by
 intro parts
 induction parts with
 | nil => intro cs out h; injection h with h; rw [h]
 | cons p r ih =>
  intro cs out h
  obtain ⟨i, v⟩ := p
  match v, h with
  | .one a, h =>
   simp only [fillC] at h
   split at h
   ·cases h
   ·split at h
    ·cases h
    ·rename_i hc
     have := ih _ _ h
     rw [this]
     simp [putAt]
     omega
theorem row_blk {σ : Sg} {w : World} {b : Nat} {φ : Nat → Prop} {id e : TypeId} {n : Nat} {cs : List CV} {res : Array Value} (len : Nat) (hrl : res.size = len * n) (h2 : CCs σ w cs res.toList) (hb : w.heap[b]? = some (.cells res id (0, 0))) : Blk σ w b φ (rowOf P id e n len cs) := by
 unfold rowOf
 have hcells : Blk σ w b φ (.cells id cs) := ⟨res, hb, h2⟩
 split
 ·rename_i t2 ht2
  split
  ·rename_i hsz
   split
   ·rename_i xs hxs
    obtain ⟨e1, e2⟩ := decMany_ok (σ := σ) (w := w) t2 len cs res.toList xs hxs h2
    exact ⟨res, hb, by rw [e1, hrl, hsz]; exact Nat.le_refl _, e2⟩
   ·exact hcells
  ·exact hcells
 ·exact hcells
theorem row_blkN {σ : Sg} {w : World} {b : Nat} {φ : Nat → Prop} {id e : TypeId} {n : Nat} {cs : List CV} {res : Array Value} (len : Nat) (hrl : res.size = len * n) (h2 : CCs σ w cs res.toList) (hb : w.heap[b]? = some (.cells res id (0, 0))) : Blk σ w b φ (rowOfN P id e n len cs) := by
 unfold rowOfN
 split
 ·exact ⟨res, hb, h2⟩
 ·exact row_blk len hrl h2 hb
theorem ok_buildSlice {t : TypeId} {len : Nat} {parts : Array (Nat × Operand)} (ho : o.op = .buildSlice t len parts) (hG : Good P S Q (aBuildSlice P t len (parts.toList.map fun p => (p.1, ev env p.2)) H K)) : ∃ v H' rd wr, Good P S Q (K v H' rd wr) ∧ Acts P o env H v H' rd wr := by
 unfold aBuildSlice at hG
 split at hG
 ·rename_i e hu
  split at hG
  ·rename_i n z hn hz
   split at hG
   ·rename_i hc
    obtain ⟨hzl, hn0, hlen⟩ := hc
    split at hG
    ·rename_i cs hf
     refine ⟨_, _, _, _, hG, .allocB (e := e) fun σ a w hx => ?_⟩
     obtain ⟨zv, hz1, hz2⟩ := zeroCs_ok (w := w) (σ := σ) hz
     have hrep := rep_ok hz2 (by rw [hzl]; exact hn0) len
     have hzs : zv.cells.size = n := by rw [← hzl]; simpa using hz2.1.symm
     rw [hzs] at hrep
     obtain ⟨res, h1, h2⟩ := fill_ok (σ := σ) (w := w) _ _ (parts.map fun (i, x) => (i, a.eval x)).toList _ cs _ (parts_ok (env := env) (a := a) fun p hp => hx p.2 (by rw [ho]; simp only [Op.operands]; simp; exact ⟨p.1, by simpa using hp⟩)) hrep hf
     have hrl : res.size = len * n := by
      have e1 := fillC_len _ _ _ _ hf
      have e2 := hrep.1
      have e3 := h2.1
      simp at e2 e3
      omega
     refine ⟨res, .slice (some ⟨w.heap.size, 0, none⟩) len len, ?_, fun σ' hx' => ?_, fun σ' hx' i1 i2 => ?_⟩
     ·simp only [execOp, ho]
      have hle : ¬ len * n > 2 ^ 24 := by omega
      by_cases h0 : len * n = 0
      ·have hl0 : len = 0 := by
        rcases Nat.mul_eq_zero.1 h0 with h | h
        ·exact h
        ·omega
       subst hl0
       have r0 : Array.range 0 = #[] := rfl
       simp [r0] at h1
       simp [Instr.buildSlice, run_underlying_of hu, run_sizeOf_of hn, newRow, r0, h1]
      ·have hf' : Instr.fill (fun i => some (i * n, n)) (Array.map (fun x => zv.cells[x % zv.cells.size]!) (Array.range (len * n))) (Array.map (fun (p : Nat × Operand) => (p.1, a.eval p.2)) parts).toList = some res := by rw [hzs]; exact h1
       have h00 : ¬ (len = 0 ∨ n = 0) := by
        rintro (h | h)
        ·exact h0 (by simp [h])
        ·omega
       simp only [Array.toList_map] at hf'
       simp [Instr.buildSlice, run_underlying_of hu, run_sizeOf_of hn, hle, h00, run_zeroValue_of hz1, newRow, hf']
       intro h; exact absurd h h0
     ·exact row_blkN len hrl (h2.ext hx') (heap_alloc_new _ _)
     ·exact ⟨i2, hn0, len, res, e, (0, 0), by rw [i1]; simp, Nat.le_refl _, by
       have : len ≤ len * n := Nat.le_mul_of_pos_right _ hn0
       omega, by rw [i1]; exact heap_alloc_new _ _, by rw [hrl]; simp⟩
    ·exact hG.elim
   ·exact hG.elim
  ·exact hG.elim
 ·exact hG.elim

end
end Go.Proofs.YtkonkblfckhcbaaGreatDoor
