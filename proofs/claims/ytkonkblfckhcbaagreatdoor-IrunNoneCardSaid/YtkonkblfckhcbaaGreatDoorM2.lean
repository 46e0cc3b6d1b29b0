/- What the laws' texts lean on, part 3: lemmas and the contracts of functions. No condition. -/
import Derived.Test.YtkonkblfckhcbaaGreatDoorM1
import Derived.Test.YtkonkblfckhcbaaGreatDoorProg
import Derived.Carry
import Derived.Lib.Hide
import Derived.BigRegion
import Derived.BigQuiet
import Derived.WalkLawsBesides
import Derived.Test.YtkonkblfckhcbaaGreatDoorM0
import Derived.OwnWalk
import Derived.Shelf.Abstract
import Derived.Laws.Tables
import Derived.WalkSpells
import Derived.Deep.RegionLaw
import Derived.Deep.RegionHeld3
import Derived.Laws.OwnMore
namespace Go.Proofs.YtkonkblfckhcbaaGreatDoor
set_option linter.unusedVariables false
set_option linter.unusedSectionVars false
set_option linter.unusedSimpArgs false
open Go.RowKit

/-! ### names, changed -/
def upC (g : Nat → Nat) : CV → CV
 | .sl b s i n => .sl (g b) s i n
 | .osl b s n => .osl (g b) s n
 | .pre b s n => .pre (g b) s n
 | .ptr b s i j => .ptr (g b) s i j
 | .map b => .map (g b)
 | .fnc a c => .fnc (upC g a) (upC g c)
 | c => c
def up1 (g : Nat → Nat) : A1 → A1
 | .c c => .c (upC g c)
 | .agg cs => .agg (cs.map (upC g))
def upA (g : Nat → Nat) : AV → AV
 | .junk => .junk
 | .one a => .one (up1 g a)
 | .tup l => .tup (l.map (up1 g))
def upB (g : Nat → Nat) : AB → AB
 | .cells e cs => .cells e (cs.map (upC g))
 | .nest e s xs ko hi hs => .nest e s xs ko hi (mapH (upC g) hs)
 | b => b
theorem nrm_upB (g : Nat → Nat) (B : AB) : nrm (upB g B) = upB g (nrm B) := by
 cases B with
 | ovec e t xs => cases xs <;> rfl
 | nest e s xs ko hi hs => cases xs <;> rfl
 | _ => rfl
theorem upB_dead {g : Nat → Nat} {B : AB} : upB g B = .dead ↔ B = .dead := by cases B <;> simp [upB]
section
variable {g : Nat → Nat} {σ σ' : Sg} {w : World} (hh : ∀ b, (σ.D b ↔ σ'.D (g b)) ∧ (σ.D b → σ'.ι (g b) = σ.ι b)) (hR : σ.R = σ'.R)
include hh hR
theorem upC_iff : ∀ {c : CV} {v : Value}, CC σ w c v ↔ CC σ' w (upC g c) v := by
 intro c
 induction c with
 | ro e xs => intro v; show (Rd.slice e.rd).K σ.R w xs [v] ↔ (Rd.slice e.rd).K σ'.R w xs [v]; rw [hR]
 | pro e xs i j =>
  intro v
  show (∃ A cap, (Rd.slice e.rd).K σ.R w xs [.slice (some A) xs.length cap] ∧ _) ↔ (∃ A cap, (Rd.slice e.rd).K σ'.R w xs [.slice (some A) xs.length cap] ∧ _)
  rw [hR]
 | fnc a c iha ihc =>
  intro v
  constructor
  ·rintro ⟨f, cs, u, h1, h2, h3⟩; exact ⟨f, cs, u, h1, iha.1 h2, ihc.1 h3⟩
  ·rintro ⟨f, cs, u, h1, h2, h3⟩; exact ⟨f, cs, u, h1, iha.2 h2, ihc.2 h3⟩
 | sl b s i n =>
  intro v
  simp only [CC, upC]
  constructor
  ·rintro ⟨hD, h⟩; exact ⟨(hh b).1.1 hD, by rw [(hh b).2 hD]; exact h⟩
  ·rintro ⟨hD, h⟩
   have hD' := (hh b).1.2 hD
   rw [(hh b).2 hD'] at h
   exact ⟨hD', h⟩
 | osl b s n =>
  intro v
  simp only [CC, upC]
  by_cases hn : n = 0
  ·simp [hn]
  ·simp only [hn, if_false]
   constructor
   ·rintro ⟨hD, h⟩; exact ⟨(hh b).1.1 hD, by rw [(hh b).2 hD]; exact h⟩
   ·rintro ⟨hD, h⟩
    have hD' := (hh b).1.2 hD
    rw [(hh b).2 hD'] at h
    exact ⟨hD', h⟩
 | pre b s n =>
  intro v
  simp only [CC, upC]
  constructor
  ·rintro ⟨hD, h⟩; exact ⟨(hh b).1.1 hD, by rw [(hh b).2 hD]; exact h⟩
  ·rintro ⟨hD, h⟩
   have hD' := (hh b).1.2 hD
   rw [(hh b).2 hD'] at h
   exact ⟨hD', h⟩
 | ptr b s i j =>
  intro v
  simp only [CC, upC]
  constructor
  ·rintro ⟨hD, h⟩; exact ⟨(hh b).1.1 hD, by rw [(hh b).2 hD]; exact h⟩
  ·rintro ⟨hD, h⟩
   have hD' := (hh b).1.2 hD
   rw [(hh b).2 hD'] at h
   exact ⟨hD', h⟩
 | map b =>
  intro v
  simp only [CC, upC]
  constructor
  ·rintro ⟨hD, h⟩; exact ⟨(hh b).1.1 hD, by rw [(hh b).2 hD]; exact h⟩
  ·rintro ⟨hD, h⟩
   have hD' := (hh b).1.2 hD
   rw [(hh b).2 hD'] at h
   exact ⟨hD', h⟩
 | _ => intro v; exact Iff.rfl
theorem upCs_iff {cs : List CV} {vs : List Value} : CCs σ w cs vs ↔ CCs σ' w (cs.map (upC g)) vs := by
 constructor
 ·intro h
  refine ⟨by simpa using h.1, fun i x y hx hy => ?_⟩
  rw [List.getElem?_map] at hx
  obtain ⟨q, hq, rfl⟩ := Option.map_eq_some_iff.1 hx
  exact (upC_iff hh hR).1 (h.2 i q y hq hy)
 ·intro h
  refine ⟨by simpa using h.1, fun i x y hx hy => (upC_iff hh hR).2 (h.2 i (upC g x) y (by rw [List.getElem?_map, hx]; rfl) hy)⟩
theorem up1_iff {a : A1} {v : Value} : CA1 σ w a v ↔ CA1 σ' w (up1 g a) v := by
 cases a with
 | c c => exact upC_iff hh hR
 | agg cs =>
  constructor
  ·rintro ⟨vs, e, h⟩; exact ⟨vs, e, (upCs_iff hh hR).1 h⟩
  ·rintro ⟨vs, e, h⟩; exact ⟨vs, e, (upCs_iff hh hR).2 h⟩
theorem upA_iff {a : AV} {v : Value} : CA σ w a v ↔ CA σ' w (upA g a) v := by
 cases a with
 | junk => exact Iff.rfl
 | one a => exact up1_iff hh hR
 | tup l =>
  constructor
  ·rintro ⟨vs, e, h⟩
   refine ⟨vs, e, by simpa using h.1, fun i x y hx hy => ?_⟩
   rw [List.getElem?_map] at hx
   obtain ⟨q, hq, rfl⟩ := Option.map_eq_some_iff.1 hx
   exact (up1_iff hh hR).1 (h.2 i q y hq hy)
  ·rintro ⟨vs, e, h⟩
   exact ⟨vs, e, by simpa using h.1, fun i x y hx hy => (up1_iff hh hR).2 (h.2 i (up1 g x) y (by rw [List.getElem?_map, hx]; rfl) hy)⟩
theorem upB_iff {k : Nat} {φ : Nat → Prop} {B : AB} : Blk σ w k φ B ↔ Blk σ' w k φ (upB g B) := by
 cases B with
 | dead => exact Iff.rfl
 | cells e cs =>
  constructor
  ·rintro ⟨c, hc, h⟩; exact ⟨c, hc, (upCs_iff hh hR).1 h⟩
  ·rintro ⟨c, hc, h⟩; exact ⟨c, hc, (upCs_iff hh hR).2 h⟩
 | vec e t xs => show (∃ c, _ ∧ _ ∧ ∀ i x, xs[i]? = some x → t.rd.K σ.R w x _) ↔ (∃ c, _ ∧ _ ∧ ∀ i x, xs[i]? = some x → t.rd.K σ'.R w x _); rw [hR]
 | ovec e t xs => show (∃ c, _ ∧ _ ∧ ∀ i x, xs[i]? = some x → t.rd.K σ.R w x _) ↔ (∃ c, _ ∧ _ ∧ ∀ i x, xs[i]? = some x → t.rd.K σ'.R w x _); rw [hR]
 | map k kt et n m => exact Iff.rfl
 | nest e s xs ko hi hs =>
  constructor
  ·rintro ⟨c, h1, h2, χ, h3, h4, h5, h6⟩
   refine ⟨c, h1, h2, χ, h3, h4, fun i y hy => ?_, fun j v y e' s' ys hv hl hsl => ?_⟩
   ·rw [mdOf_map, ← hR]; exact h5 i y hy
   ·rw [holeAt_map] at hv
    obtain ⟨q, hq, rfl⟩ := Option.map_eq_some_iff.1 hv
    obtain ⟨u, hu, hc⟩ := h6 j q y e' s' ys hq hl hsl
    exact ⟨u, hu, (upC_iff hh hR).1 hc⟩
  ·rintro ⟨c, h1, h2, χ, h3, h4, h5, h6⟩
   refine ⟨c, h1, h2, χ, h3, h4, fun i y hy => ?_, fun j v y e' s' ys hv hl hsl => ?_⟩
   ·have := h5 i y hy
    rw [mdOf_map, ← hR] at this
    exact this
   ·obtain ⟨u, hu, hc⟩ := h6 j (upC g v) y e' s' ys (by rw [holeAt_map, hv]; rfl) hl hsl
    exact ⟨u, hu, (upC_iff hh hR).2 hc⟩
end

/-! ### a part of memory -/
def gmap (gl : List Nat) (n2 k : Nat) : Nat := if k < gl.length then gl.getD k 0 else n2 + (k - gl.length)
def ginv (gl : List Nat) (n2 k : Nat) : Nat := match posOf gl k with
 | some j => j
 | none => gl.length + (k - n2)
def putL : List Nat → List AB → List AB → List AB
 | b :: r, B :: Bs, H => putL r Bs (H.set b B)
 | _, _, H => H
def frameOut (gl : List Nat) (H2 Ht : List AB) : List AB := putL gl ((Ht.take gl.length).map (upB (gmap gl H2.length))) H2 ++ (Ht.drop gl.length).map (upB (gmap gl H2.length))
def frameWr (gl : List Nat) (n2 m : Nat) : List Nat := gl ++ List.range' n2 (m - gl.length)
theorem putL_len : ∀ (gl : List Nat) (Bs H : List AB), (putL gl Bs H).length = H.length
 | [], _, _ => rfl
 | _ :: _, [], _ => rfl
 | b :: r, B :: Bs, H => by simp [putL, putL_len r]
theorem putL_off : ∀ {gl : List Nat} {Bs H : List AB} {b : Nat}, b ∉ gl → (putL gl Bs H)[b]? = H[b]?
 | [], _, _, _, _ => rfl
 | _ :: _, [], _, _, _ => rfl
 | c :: r, B :: Bs, H, b, h => by
  have h1 : b ≠ c := fun e => h (by simp [e])
  have h2 : b ∉ r := fun e => h (by simp [e])
  rw [putL, putL_off h2, List.getElem?_set_ne (Ne.symm h1)]
theorem putL_on : ∀ {gl : List Nat} {Bs H : List AB} {k b : Nat} {B : AB}, gl.Nodup → gl[k]? = some b → Bs[k]? = some B → b < H.length → (putL gl Bs H)[b]? = some B
 | [], _, _, _, _, _, _, h, _, _ => by simp at h
 | _ :: _, [], _, _, _, _, _, _, h, _ => by simp at h
 | c :: r, B0 :: Bs, H, 0, b, B, hn, h1, h2, h3 => by
  simp at h1 h2
  subst h1; subst h2
  rw [putL, putL_off (List.nodup_cons.1 hn).1, List.getElem?_set_self h3]
 | c :: r, B0 :: Bs, H, k + 1, b, B, hn, h1, h2, h3 => by
  simp at h1 h2
  rw [putL]
  exact putL_on (List.nodup_cons.1 hn).2 h1 h2 (by simpa using h3)
theorem posOf_none : ∀ {gl : List Nat} {b : Nat}, posOf gl b = none → b ∉ gl
 | [], _, _ => by simp
 | a :: r, b, h => by
  unfold posOf at h
  split at h
  ·cases h
  ·rename_i he
   have h1 : a ≠ b := fun e => he (by rw [e]; exact Nat.beq_refl b)
   have h2 := posOf_none (by simpa using h : posOf r b = none)
   simp [h2, Ne.symm h1]
section
variable {gl : List Nat} {n2 : Nat} (hnd : gl.Nodup) (hlt : ∀ b ∈ gl, b < n2)
theorem gmap_in {k : Nat} (h : k < gl.length) : gl[k]? = some (gmap gl n2 k) := by
 unfold gmap
 rw [if_pos h, List.getD_eq_getElem?_getD, List.getElem?_eq_getElem h]; rfl
theorem gmap_mem {k : Nat} (h : k < gl.length) : gmap gl n2 k ∈ gl := List.mem_of_getElem? (gmap_in h)
theorem gmap_out {k : Nat} (h : gl.length ≤ k) : gmap gl n2 k = n2 + (k - gl.length) := by unfold gmap; rw [if_neg (by omega)]
include hnd hlt
theorem ginv_gmap (k : Nat) : ginv gl n2 (gmap gl n2 k) = k := by
 rcases Nat.lt_or_ge k gl.length with h | h
 ·have h1 := gmap_in (n2 := n2) h
  unfold ginv
  split
  ·rename_i j hj
   have h2 := posOf_some hj
   have hp := List.pairwise_iff_getElem.1 hnd
   have l1 := (List.getElem?_eq_some_iff.1 h2).1
   have e1 := (List.getElem?_eq_some_iff.1 h2).2
   have e2 := (List.getElem?_eq_some_iff.1 h1).2
   rcases Nat.lt_trichotomy j k with hc | hc | hc
   ·exact absurd (e1.trans e2.symm) (hp j k l1 h hc)
   ·exact hc
   ·exact absurd (e2.trans e1.symm) (hp k j h l1 hc)
  ·rename_i hn
   exact absurd (gmap_mem h) (posOf_none hn)
 ·rw [gmap_out h]
  unfold ginv
  split
  ·rename_i j hj
   have := hlt _ (List.mem_of_getElem? (posOf_some hj))
   omega
  ·omega
theorem gmap_inj {k k' : Nat} (h : gmap gl n2 k = gmap gl n2 k') : k = k' := by
 have := congrArg (ginv gl n2) h
 rwa [ginv_gmap hnd hlt, ginv_gmap hnd hlt] at this
theorem gmap_wr {k m : Nat} (hm : gl.length ≤ m) : gmap gl n2 k ∈ frameWr gl n2 m ↔ k < m := by
 unfold frameWr
 rw [List.mem_append, List.mem_range'_1]
 rcases Nat.lt_or_ge k gl.length with h | h
 ·have := gmap_mem (n2 := n2) h
  constructor
  ·intro _; omega
  ·intro _; exact .inl this
 ·rw [gmap_out h]
  constructor
  ·rintro (h1 | h1)
   ·have := hlt _ h1; omega
   ·omega
  ·intro h1; right; omega
theorem wr_gmap {b m : Nat} (hm : gl.length ≤ m) (h : b ∈ frameWr gl n2 m) : ∃ k, k < m ∧ b = gmap gl n2 k := by
 unfold frameWr at h
 rw [List.mem_append, List.mem_range'_1] at h
 rcases h with h | h
 ·obtain ⟨k, hk, rfl⟩ := List.mem_iff_getElem.1 h
  refine ⟨k, by omega, ?_⟩
  have := gmap_in (n2 := n2) hk
  rw [List.getElem?_eq_getElem hk] at this
  injection this
 ·refine ⟨gl.length + (b - n2), by omega, ?_⟩
  rw [gmap_out (by omega)]; omega
end
theorem frameOut_len {gl : List Nat} {H2 Ht : List AB} : (frameOut gl H2 Ht).length = H2.length + (Ht.length - gl.length) := by
 unfold frameOut
 simp [putL_len]
theorem frameOut_on {gl : List Nat} {H2 Ht : List AB} (hnd : gl.Nodup) (hlt : ∀ b ∈ gl, b < H2.length) {k : Nat} (hk : k < Ht.length) : (frameOut gl H2 Ht)[gmap gl H2.length k]? = some (upB (gmap gl H2.length) (rgv Ht k)) := by
 have e : Ht[k]? = some (rgv Ht k) := by simp [rgv, List.getD_eq_getElem?_getD, List.getElem?_eq_getElem hk]
 unfold frameOut
 rcases Nat.lt_or_ge k gl.length with h | h
 ·have h1 := gmap_in (n2 := H2.length) h
  have h2 := hlt _ (gmap_mem (n2 := H2.length) h)
  rw [List.getElem?_append_left (by rw [putL_len]; exact h2)]
  refine putL_on hnd h1 ?_ h2
  rw [List.getElem?_map, List.getElem?_take, if_pos h, e]; rfl
 ·rw [gmap_out h, List.getElem?_append_right (by rw [putL_len]; omega), putL_len, List.getElem?_map, List.getElem?_drop]
  have : gl.length + (H2.length + (k - gl.length) - H2.length) = k := by omega
  rw [this, e]; rfl
theorem frameOut_off {gl : List Nat} {H2 Ht : List AB} (hm : gl.length ≤ Ht.length) {b : Nat} (hb : b ∉ frameWr gl H2.length Ht.length) : (frameOut gl H2 Ht)[b]? = H2[b]? := by
 unfold frameWr at hb
 rw [List.mem_append, List.mem_range'_1] at hb
 unfold frameOut
 rcases Nat.lt_or_ge b H2.length with h | h
 ·rw [List.getElem?_append_left (by rw [putL_len]; exact h), putL_off (fun h1 => hb (.inl h1))]
 ·rw [List.getElem?_append_right (by rw [putL_len]; exact h), putL_len, List.getElem?_eq_none h]
  refine List.getElem?_eq_none ?_
  simp
  omega
/-- Of a function with memory of its caller's, where that is a part of the caller's whole memory. -/
theorem AFunH.frame {P : Program} {f : Nat} {args args2 : List AV} {H H2 Ht H2' : List AB} {r r2 : AV} {wr2 : List Nat} (gl : List Nat) (h : AFunH P f args H r Ht (List.range Ht.length)) (hnd : gl.Nodup) (hlt : ∀ b ∈ gl, b < H2.length)
  (hH : gl.map (rgv H2) = H.map (upB (gmap gl H2.length))) (ha : args2 = args.map (upA (gmap gl H2.length))) (hr : r2 = upA (gmap gl H2.length) r) (hH' : H2' = frameOut gl H2 Ht) (hw : wr2 = frameWr gl H2.length Ht.length) : AFunH P f args2 H2 r2 H2' wr2 := by
 subst ha; subst hr; subst hH'; subst hw
 generalize hn2 : H2.length = n2
 have hlen : gl.length = H.length := by have := congrArg List.length hH; simpa using this
 have hle : gl.length ≤ Ht.length := by rw [hlen]; exact h.len
 rw [hn2] at hH hlt
 have hb : ∀ k, k < H.length → rgv H2 (gmap gl n2 k) = upB (gmap gl n2) (rgv H k) := fun k hk => by
  have h1 := congrArg (·[k]?) hH
  simp only [List.getElem?_map, gmap_in (n2 := n2) (show k < gl.length by omega), List.getElem?_eq_getElem hk, Option.map_some] at h1
  injection h1 with h1
  rw [h1]; simp [rgv, List.getD_eq_getElem?_getD, List.getElem?_eq_getElem hk]
 have hgv : ∀ k, k < H.length → gv H2 (gmap gl n2 k) = upB (gmap gl n2) (gv H k) := fun k hk => by
  rw [gv_rgv, gv_rgv, hb k hk, nrm_upB]
 have hlive : ∀ k, gv H k ≠ .dead → k < H.length := fun k hk => by
  rcases Nat.lt_or_ge k H.length with h | h
  ·exact h
  ·exact absurd (gv_none (List.getElem?_eq_none h)) hk
 have hout : ∀ k, k < Ht.length → gv (frameOut gl H2 Ht) (gmap gl n2 k) = upB (gmap gl n2) (gv Ht k) := fun k hk => by
  have := frameOut_on hnd (by rw [hn2]; exact hlt) (H2 := H2) hk
  rw [hn2] at this
  rw [gv_some this, nrm_upB, gv_rgv]
 exact {
  len := by rw [frameOut_len]; omega
  lt := fun b hb => by
   rw [frameOut_len]
   unfold frameWr at hb
   rw [List.mem_append, List.mem_range'_1] at hb
   rcases hb with hb | hb
   ·have := hlt b hb; omega
   ·omega
  off := fun b hb => by
   have := frameOut_off hle (H2 := H2) (b := b) (by rw [hn2]; exact hb)
   rw [gv_rgv, gv_rgv]
   simp only [rgv, List.getD_eq_getElem?_getD, this]
  act := fun σ w vs hrel hfr hv => by
   let σ1 : Sg := ⟨fun k => σ.ι (gmap gl n2 k), fun k => σ.D (gmap gl n2 k), σ.R, fun k => σ.F (gmap gl n2 k)⟩
   have h1 : ∀ b, (σ1.D b ↔ σ.D (gmap gl n2 b)) ∧ (σ1.D b → σ.ι (gmap gl n2 b) = σ1.ι b) := fun b => ⟨Iff.rfl, fun _ => rfl⟩
   have hrel1 : RelG σ1 (gv H) w := {
    dom := fun b hd => hrel.dom _ (by rw [hgv b (hlive b hd)]; exact fun e => hd (upB_dead.1 e))
    blk := fun b hd => (upB_iff h1 rfl).2 (by
     have := hrel.blk (gmap gl n2 b) (by rw [hgv b (hlive b hd)]; exact fun e => hd (upB_dead.1 e))
     rwa [hgv b (hlive b hd)] at this)
    injF := fun b b' hd hd' k e e' => gmap_inj hnd hlt (hrel.injF _ _ (by rw [hgv b (hlive b hd)]; exact fun e => hd (upB_dead.1 e)) (by rw [hgv b' (hlive b' hd')]; exact fun e => hd' (upB_dead.1 e)) k e e')
    outF := fun b hd => hrel.outF _ (by rw [hgv b (hlive b hd)]; exact fun e => hd (upB_dead.1 e))
    rlt := hrel.rlt
    glob := hrel.glob
    flt := fun b hd => hrel.flt _ (by rw [hgv b (hlive b hd)]; exact fun e => hd (upB_dead.1 e)) }
   have hv1 : All2 (CA σ1 w) args vs := ⟨by simpa using hv.1, fun i x y hx hy => (upA_iff h1 rfl).2 (hv.2 i (upA (gmap gl n2) x) y (by rw [List.getElem?_map, hx]; rfl) hy)⟩
   have hfr1 : ∀ b ∈ List.range Ht.length, H.length ≤ b → ¬ σ1.D b := fun b hb hl => hfr _ ((gmap_wr hnd hlt hle).2 (by simpa using hb)) (by rw [gmap_out (by omega)]; omega)
   refine (fun hc => ?_) (h.act σ1 w vs hrel1 hfr1 hv1)
   have key : ∀ v w', (∃ σ1', Stp σ1 (gv H) w (List.range Ht.length) (gv Ht) σ1' w' ∧ CA σ1' w' r v) → ∃ σ', Stp σ (gv H2) w (frameWr gl n2 Ht.length) (gv (frameOut gl H2 Ht)) σ' w' ∧ CA σ' w' (upA (gmap gl n2) r) v := fun v w' ⟨σ1', hs, hcv⟩ => by
    let σ' : Sg := ⟨fun k => if k ∈ frameWr gl n2 Ht.length then σ1'.ι (ginv gl n2 k) else σ.ι k, fun k => σ.D k ∨ k ∈ frameWr gl n2 Ht.length, σ1'.R, fun k => if k ∈ frameWr gl n2 Ht.length then σ1'.F (ginv gl n2 k) else σ.F k⟩
    have ιk : ∀ k, k < Ht.length → σ'.ι (gmap gl n2 k) = σ1'.ι k := fun k hk => by
     show (if _ then _ else _) = _
     rw [if_pos ((gmap_wr hnd hlt hle).2 hk), ginv_gmap hnd hlt]
    have Fk : ∀ k, k < Ht.length → σ'.F (gmap gl n2 k) = σ1'.F k := fun k hk => by
     show (if _ then _ else _) = _
     rw [if_pos ((gmap_wr hnd hlt hle).2 hk), ginv_gmap hnd hlt]
    have fk : ∀ {q : Nat} (k : Nat), k < Ht.length → σ'.fp (gmap gl n2 k) q → σ1'.fp k q := fun k hk hq => by
     unfold Sg.fp at hq ⊢
     rwa [ιk k hk, Fk k hk] at hq
    have h2 : ∀ b, (σ1'.D b ↔ σ'.D (gmap gl n2 b)) ∧ (σ1'.D b → σ'.ι (gmap gl n2 b) = σ1'.ι b) := fun b => by
     have hD : σ1'.D b ↔ σ.D (gmap gl n2 b) ∨ b < Ht.length := by rw [hs.D]; simp [σ1]
     refine ⟨?_, fun hb => ?_⟩
     ·rw [hD]
      show _ ↔ σ.D _ ∨ _
      rw [gmap_wr hnd hlt hle]
     ·by_cases hk : b < Ht.length
      ·exact ιk b hk
      ·have h3 := (hD.1 hb).resolve_right hk
       show (if _ then _ else _) = _
       rw [if_neg (fun hm => hk ((gmap_wr hnd hlt hle).1 hm))]
       exact (hs.ext.ι b h3).2.symm
    have fp : ∀ k, fpOf σ1 (gv H) (List.range Ht.length) k → fpOf σ (gv H2) (frameWr gl n2 Ht.length) k := fun k ⟨b, hb, hd, e⟩ =>
     ⟨gmap gl n2 b, (gmap_wr hnd hlt hle).2 (by simpa using hb), by rw [hgv b (hlive b hd)]; exact fun e => hd (upB_dead.1 e), e⟩
    have live : ∀ k, k < Ht.length → gv (frameOut gl H2 Ht) (gmap gl n2 k) ≠ .dead → gv Ht k ≠ .dead := fun k hk hd e => hd (by rw [hout k hk, e]; rfl)
    refine ⟨σ', {
     D := fun b => Iff.rfl
     ext := ⟨fun k hk => ⟨.inl hk, ?_⟩, hs.ext.R, hs.ext.keep, hs.ext.shape⟩
     chg := hs.chg.mono fp
     blk := fun b hb hd => ?_
     locF := fun b hb hd q hq => ?_
     injF := fun b hb b' hb' hd hd' q e e' => ?_
     Rnew := fun k hk => (hs.Rnew k hk).imp id (Or.imp id (fp k))
     outF := fun b hb hd q hq => ?_
     rlt := hs.rlt
     flt := fun b hb hd q hq => ?_
     F := fun b hD hb => ?_ }, (upA_iff h2 rfl).1 hcv⟩
    ·show (if _ then _ else _) = _
     split
     ·rename_i hm
      obtain ⟨j, hj, rfl⟩ := wr_gmap hnd hlt hle hm
      rw [ginv_gmap hnd hlt]
      exact (hs.ext.ι j hk).2
     ·rfl
    ·obtain ⟨j, hj, rfl⟩ := wr_gmap hnd hlt hle hb
     have := hs.blk j (by simpa using hj) (live j hj hd)
     rw [hout j hj, ιk j hj, Fk j hj]
     exact (upB_iff h2 rfl).1 this
    ·obtain ⟨j, hj, rfl⟩ := wr_gmap hnd hlt hle hb
     exact (hs.locF j (by simpa using hj) (live j hj hd) q (fk j hj hq)).imp (fp _) id
    ·obtain ⟨j, hj, rfl⟩ := wr_gmap hnd hlt hle hb
     obtain ⟨j', hj', rfl⟩ := wr_gmap hnd hlt hle hb'
     rw [hs.injF j (by simpa using hj) j' (by simpa using hj') (live j hj hd) (live j' hj' hd') q (fk j hj e) (fk j' hj' e')]
    ·obtain ⟨j, hj, rfl⟩ := wr_gmap hnd hlt hle hb
     exact hs.outF j (by simpa using hj) (live j hj hd) q (fk j hj hq)
    ·obtain ⟨j, hj, rfl⟩ := wr_gmap hnd hlt hle hb
     rw [Fk j hj] at hq
     exact hs.flt j (by simpa using hj) (live j hj hd) q hq
    ·show (if _ then _ else _) = _
     rw [if_neg hb]
   rcases hc with ⟨hc1, hc2⟩ | ⟨v, w', hc1, hc2⟩
   ·exact .inl ⟨hc1, hc2.mono fun e w' ⟨v, he, hx⟩ => ⟨v, he, key v w' hx⟩⟩
   ·exact .inr ⟨v, w', hc1, key v w' hc2⟩ }

/-! ### ends that give up what they made -/
def frzQ (P : Program) (Q : AV → List AB → Prop) (v : AV) (H : List AB) : Prop := Good P (fun _ _ _ => False) Q (frzA H v fun v' l => .ret v' (killL l H))
section
variable {P : Program} {f : Nat} {fn : Func} {body : Code} {args : List AV} {r : AV} {H Ht : List AB}
theorem RunN.unfrz {n0 : Nat} {Q : AV → List AB → Prop} {todo : List Item} {env : List AV} (h : RunN n0 P f (frzQ P Q) todo env H) : RunN n0 P f Q todo env H := fun σ0 G0 W b a w cs h0 h1 h2 h3 => by
 obtain ⟨v, w', fr, r, H', σ', q1, q2, q3, q4, q5, q6, q7⟩ := h σ0 G0 W b a w cs h0 h1 h2 h3
 obtain ⟨v', l, hq, hlt, hfz⟩ := frzA_ok q1
 have hs := Stp.frz (G' := gv (killL l H')) (l := l) q3 (fun b hb => gv_kill hb)
 have e : updG (gv H') l (gv (killL l H')) = gv (killL l H') := updG_gv fun b hb => gv_kill_off hb
 have hrel := hs.rel q3
 have hout := q4.step q3 hs
 rw [e] at hrel hout
 refine ⟨v, w', fr, v', killL l H', _, hq, fun n hn => ?_, hrel, hout, (hfz σ' (gv H') w' v l (fun _ h => h) (fun _ _ => rfl) q3 (q5.ext fS_ext)).ext fSD_ext, q6, q7⟩
 rw [killL_len]
 rcases hn with hn | hn
 ·exact q2 n hn
 ·exact hlt n hn
theorem AFunH.ofF (oc : Orc) (lv : LV) (n : Nat) (hf : P.funcs[f]? = some fn) (hm : P.follows .mixedOrders = true) (hb : fn.body = some body) (hn : (fn.name == "runtime.NumGoroutine") = false) (hl : args.length ≤ fn.ntmps)
  (ha : args.map (renA (List.range H.length)) = args) (hH : (List.range H.length).map (fun b => renB (List.range H.length) (rgv H b)) = H) (hle : H.length ≤ Ht.length) (T : Tree)
  (hT : aRun P oc fn lv n [.code body] (args ++ List.replicate (fn.ntmps - args.length) .junk) H = T)
  (h : FactsH args H → Good P (RunN H.length P f (frzQ P (retH H.length r Ht))) (frzQ P (retH H.length r Ht)) T) : AFunH P f args H r Ht (List.range Ht.length) :=
 .of_run hf hb hn hl ha hH hle fun hF => RunN.unfrz (run_of hf hm n _ _ _ (by rw [hT]; exact h hF))
end
section
variable {P : Program} {S : List Item → List AV → List AB → Prop} {Q : AV → List AB → Prop}
theorem g_rq {v r : AV} {H : List AB} (h : Good P (fun _ _ _ => False) (fun v' _ => LeA v' r ∧ v'.closed = true) (frzA H v fun v' _ => .ret v' [])) : Good P S (retQ P r) (.ret v H) := h
theorem g_rl {v r : AV} {H : List AB} (hl : leAV v r) (hc : v.closed = true) : Good P S (fun v' _ => LeA v' r ∧ v'.closed = true) (.ret v H) := ⟨hl.to, hc⟩
end
/-- A call, out of a function's contract. -/
theorem AFun.calls {P : Program} {f : Nat} {fn : Func} {body : Code} {args : List AV} {r : AV} (hf : P.funcs[f]? = some fn) (hb : fn.body = some body) (hn : (fn.name == "runtime.NumGoroutine") = false) (h : AFun P f args r) {R : Nat → Prop} {w : World} {vs : List Value} (h1 : ∀ k, R k → k < w.heap.size) (h2 : GlobOk R w) (h3 : All2 (CA ⟨id, fun _ => False, R, fun _ _ => False⟩ w) args vs) :
  Calls P f vs.toArray w fun e w' => ∃ v, e = .returned v ∧ Below w.heap.size w w' ∧ CA ⟨id, fun _ => False, fun k => R k ∨ (w.heap.size ≤ k ∧ k < w'.heap.size), fun _ _ => False⟩ w' r v := by
 rcases h R w vs h1 h2 h3 with ⟨_, h⟩ | ⟨v, w', h, _⟩
 ·exact h
 ·rw [enters_of hf hn hb] at h
  cases h
end Go.Proofs.YtkonkblfckhcbaaGreatDoor
namespace Go.Proofs.YtkonkblfckhcbaaGreatDoor
abbrev tI : Ty := .int .i64
abbrev tVal : Ty := .pair tI tI
abbrev tIns : Ty := .pair tI (.pair tI (.pair tI (.pair tI (.pair tI (.pair tI tVal)))))
abbrev tSet : Ty := .pair tI tI
abbrev tMake : Ty := .pair tI (.pair tI (.pair tI (.slice tI)))
abbrev tExit : Ty := .pair tI (.pair tI (.pair (.slice tSet) (.slice tMake)))
abbrev tTrace : Ty := .pair tI (.pair tI (.pair tI (.pair (.slice tIns) (.pair (.slice tExit) (.pair tExit tExit)))))
abbrev tOrd : Ty := .pair tI (.pair tI (.pair tI (.pair tI tI)))
abbrev tFn : Ty := .pair tI (.pair tI (.pair .bool (.pair (.slice tI) (.slice tOrd))))
abbrev tProg : Ty := .pair (.slice tFn) (.pair (.slice tVal) (.slice .str))
abbrev tChk : Ty := .pair tFn tTrace
abbrev tForm : Ty := .pair tI (.pair tI (.pair tI (.pair .bool (.pair .bool tI))))
abbrev EVal := Int × Int
abbrev EIns := Int × Int × Int × Int × Int × Int × EVal
abbrev ESet := Int × Int
abbrev EMake := Int × Int × Int × List Int
abbrev EExit := Int × Int × List ESet × List EMake
abbrev ETrace := Int × Int × Int × List EIns × List EExit × EExit × EExit
abbrev EOrd := Int × Int × Int × Int × Int
abbrev EFn := Int × Int × Bool × List Int × List EOrd
abbrev EProg := List EFn × List EVal × List ByteArray
abbrev EChk := EFn × ETrace
abbrev EForm := Int × Int × Int × Bool × Bool × Int
theorem mixed : Tryz.prog.follows .mixedOrders = true := by kernel_rfl
end Go.Proofs.YtkonkblfckhcbaaGreatDoor
namespace Go.Proofs.YtkonkblfckhcbaaGreatDoor
set_option linter.unusedVariables false
set_option linter.unusedSimpArgs false
open Go.RowKit

structure Fm where
 asks : Int
 low : Int
 high : Int
 k : Bool
 tells : Bool
 exit : Int
def Fm.cells (f : Fm) : Array Value := #[.int .i64 f.asks, .int .i64 f.low, .int .i64 f.high, .bool f.k, .bool f.tells, .int .i64 f.exit]
end Go.Proofs.YtkonkblfckhcbaaGreatDoor
namespace Go.Proofs.YtkonkblfckhcbaaGreatDoor
set_option linter.unusedVariables false
set_option linter.unusedSimpArgs false
open Go.RowKit

/-- An instruction of a trace. -/
structure Ins where
 op : Int
 a : Int
 b : Int
 c : Int
 n : Int
 x : Int
 kk : Int
 kn : Int
deriving DecidableEq
def Ins.cells (i : Ins) : Array Value := #[.int .i64 i.op, .int .i64 i.a, .int .i64 i.b, .int .i64 i.c, .int .i64 i.n, .int .i64 i.x, .int .i64 i.kk, .int .i64 i.kn]
theorem infoInt : (Tryz.prog.info? 3).map (fun i => (i.zero, i.size, i.bytes)) = some (some (Value.int .i64 0), 1, 8) := by kernel_rfl

/-- A row of cells just laid reads as these. -/
theorem C_lit {w : World} (b : Nat) (cs : Array Value) (t : TypeId) (fr : Nat × Nat) (hb : w.heap[b]? = some (.cells cs t fr)) (m : Nat) (xs : List Int) (hm : xs.length = m) (hx : ∀ (i : Nat) (x : Int), xs[i]? = some x → cs[i]? = some (.int .i64 x) ∧ Rd.IsInt x) (hlen : m ≤ 9223372036854775807) : Rd.int.C (· = b) w (some ⟨b, 0, none⟩) m xs :=
 ⟨hm, hlen, fun _ => ⟨_, rfl, rfl, (Array.getElem?_eq_some_iff.1 hb).1, fun i x hi => ⟨_, ⟨rfl, (hx i x hi).2⟩, fun j u hj => by
  cases j with
  | zero =>
   have hu : Value.int .i64 x = u := by simpa using hj
   subst hu
   have e : (⟨b, 0, none⟩ : Addr).add (i * Rd.int.sz + 0) = ⟨b, i, none⟩ := by
    unfold Addr.add; split
    ·rename_i h; simp [Rd.int] at h; simp [h]
    ·simp [Rd.int]
   rw [e, World.cell?, hb]
   exact (hx i x hi).1
  | succ j => simp at hj⟩⟩⟩

end Go.Proofs.YtkonkblfckhcbaaGreatDoor
namespace Go.Proofs.YtkonkblfckhcbaaGreatDoor
set_option linter.unusedVariables false
set_option linter.unusedSimpArgs false
open Go.RowKit

structure TSet where
 reg : Int
 val : Int
deriving DecidableEq
structure TMake where
 cell : Int
 kind : Int
 num : Int
 vals : List Int
deriving DecidableEq
structure TExit where
 at_ : Int
 steps : Int
 sets : List TSet
 makes : List TMake
deriving DecidableEq
structure TTrace where
 fn : Int
 at_ : Int
 loop : Int
 ins : List Ins
 exits : List TExit
 turn : TExit
 back : TExit
deriving DecidableEq

def Ins.Ok (i : Ins) : Prop := Rd.IsInt i.op ∧ Rd.IsInt i.a ∧ Rd.IsInt i.b ∧ Rd.IsInt i.c ∧ Rd.IsInt i.n ∧ Rd.IsInt i.x ∧ Rd.IsInt i.kk ∧ Rd.IsInt i.kn
def TSet.cells (s : TSet) : Array Value := #[.int .i64 s.reg, .int .i64 s.val]
/-- Whether a value is a slice that reads as xs. -/
abbrev SlK {α : Type} (d : Rd α) (ok : Nat → Prop) (w : World) (xs : List α) (v : Value) : Prop := (Rd.slice d).K ok w xs [v]
theorem SlK.one {α : Type} {d : Rd α} {ok : Nat → Prop} {w : World} {xs : List α} {v : Value} (h : SlK d ok w xs v) : v.oneCell' = true := (Rd.slice d).one h v (by simp)
/-! ### opened from a row's reading -/
theorem opens_conv {α β : Type} {P : Program} {t : TypeId} {d : Rd α} {d' : Rd β} (h : Opens P t d) (hs : d.sz = d'.sz) (hc : ∀ ok w a cs, d.K ok w a cs → ∃ b, d'.K ok w b cs) : Opens P t d' :=
 ⟨h.1.trans hs, fun enc w fuel cs x hx => by
  obtain ⟨a, ha⟩ := h.2 enc w fuel cs x hx
  exact hc _ _ _ _ ha⟩
theorem SlK_of {α : Type} {d : Rd α} {ok : Nat → Prop} {w : World} {xs : List α} {cs : List Value} (h : (Rd.slice d).K ok w xs cs) : ∃ v, cs = [v] ∧ SlK d ok w xs v := by
 obtain ⟨A, c, rfl, r⟩ := h
 exact ⟨_, rfl, A, c, rfl, r⟩
end Go.Proofs.YtkonkblfckhcbaaGreatDoor
namespace Go.Proofs.YtkonkblfckhcbaaGreatDoor
set_option linter.unusedVariables false
set_option linter.unusedSimpArgs false
open Go.RowKit
theorem cI : Opens Tryz.prog 3 tI.rd := opens_conv (opens_int Tryz.underlying3 (by kernel_rfl)) rfl (fun ok w a cs h => ⟨a, h.1, i64_iff.2 h.2⟩)
theorem cB : Opens Tryz.prog 4 (Ty.rd .bool) := opens_bool Tryz.underlying4 (by kernel_rfl)
theorem cS : Opens Tryz.prog 9 (Ty.rd .str) := opens_str Tryz.underlying9 (by kernel_rfl)
theorem szp (t : Ty) : 0 < t.rd.sz := by rw [t.rd_sz]; exact t.sz_pos
theorem cIs : Opens Tryz.prog 94 (Ty.rd (.slice tI)) := opens_slice Tryz.underlying94 (by kernel_rfl) cI (szp _)
theorem cSs : Opens Tryz.prog 24 (Ty.rd (.slice .str)) := opens_slice Tryz.underlying24 (by kernel_rfl) cS (szp _)
theorem cVal : Opens Tryz.prog 48 tVal.rd := opens_struct (d := tVal.rd) Tryz.underlying48 (by kernel_rfl) (opensFs_cons rfl cI (opensFs_one rfl cI))
theorem cVals : Opens Tryz.prog 23 (Ty.rd (.slice tVal)) := opens_slice Tryz.underlying23 (by kernel_rfl) cVal (szp _)
theorem cIns : Opens Tryz.prog 97 tIns.rd := opens_struct (d := tIns.rd) Tryz.underlying97 (by kernel_rfl) (opensFs_cons rfl cI (opensFs_cons rfl cI (opensFs_cons rfl cI (opensFs_cons rfl cI (opensFs_cons rfl cI (opensFs_cons rfl cI (opensFs_one rfl cVal)))))))
theorem cSet : Opens Tryz.prog 66 tSet.rd := opens_struct (d := tSet.rd) Tryz.underlying66 (by kernel_rfl) (opensFs_cons rfl cI (opensFs_one rfl cI))
theorem cMake : Opens Tryz.prog 212 tMake.rd := opens_struct (d := tMake.rd) Tryz.underlying212 (by kernel_rfl) (opensFs_cons rfl cI (opensFs_cons rfl cI (opensFs_cons rfl cI (opensFs_one rfl cIs))))
theorem cExit : Opens Tryz.prog 32 tExit.rd := opens_struct (d := tExit.rd) Tryz.underlying32 (by kernel_rfl) (opensFs_cons rfl cI (opensFs_cons rfl cI (opensFs_cons rfl (opens_slice Tryz.underlying29 (by kernel_rfl) cSet (szp _)) (opensFs_one rfl (opens_slice Tryz.underlying30 (by kernel_rfl) cMake (szp _))))))
theorem cTrace : Opens Tryz.prog 34 tTrace.rd := opens_struct (d := tTrace.rd) Tryz.underlying34 (by kernel_rfl) (opensFs_cons rfl cI (opensFs_cons rfl cI (opensFs_cons rfl cI (opensFs_cons rfl (opens_slice Tryz.underlying27 (by kernel_rfl) cIns (szp _)) (opensFs_cons rfl (opens_slice Tryz.underlying28 (by kernel_rfl) cExit (szp _)) (opensFs_cons rfl cExit (opensFs_one rfl cExit)))))))
theorem cOrd : Opens Tryz.prog 235 tOrd.rd := opens_struct (d := tOrd.rd) Tryz.underlying235 (by kernel_rfl) (opensFs_cons rfl cI (opensFs_cons rfl cI (opensFs_cons rfl cI (opensFs_cons rfl cI (opensFs_one rfl cI)))))
theorem cFn : Opens Tryz.prog 104 tFn.rd := opens_struct (d := tFn.rd) Tryz.underlying104 (by kernel_rfl) (opensFs_cons rfl cI (opensFs_cons rfl cI (opensFs_cons rfl cB (opensFs_cons rfl cIs (opensFs_one rfl (opens_slice Tryz.underlying102 (by kernel_rfl) cOrd (szp _)))))))
theorem cProg : Opens Tryz.prog 26 tProg.rd := opens_struct (d := tProg.rd) Tryz.underlying26 (by kernel_rfl) (opensFs_cons rfl (opens_slice Tryz.underlying22 (by kernel_rfl) cFn (szp _)) (opensFs_cons rfl cVals (opensFs_one rfl cSs)))
end Go.Proofs.YtkonkblfckhcbaaGreatDoor
namespace Go.Proofs.YtkonkblfckhcbaaGreatDoor
set_option linter.unusedVariables false
set_option linter.unusedSimpArgs false
set_option maxRecDepth 100000
def oc0 : Orc := ⟨fun _ _ => none, fun _ _ _ => none⟩
def ofF (op : Int) : EForm × Bool :=
 if op = 1 then ((0, (0, (1073741824, (false, (true, 0))))), true)
 else if op = 2 then ((0, (0, (0, (true, (true, 0))))), true)
 else if op = 3 then ((0, (0, (0, (false, (true, 0))))), true)
 else if op = 4 then ((1, (0, (6, (false, (false, 2))))), true)
 else if op = 5 then ((1, (0, (1, (false, (false, 2))))), true)
 else if op = 6 then ((1, (0, (0, (true, (false, 2))))), true)
 else if op = 7 then ((2, (3, (10, (false, (true, 1))))), true)
 else if op = 8 then ((1, (11, (12, (false, (true, 1))))), true)
 else if op = 9 then ((1, (1, (7, (false, (false, 2))))), true)
 else if op = 10 then ((1, (0, (99, (false, (true, 0))))), true)
 else if op = 11 then ((2, (0, (99, (false, (false, 0))))), true)
 else if op = 12 then ((2, (1, (1073741824, (false, (false, 2))))), true)
 else if op = 13 then ((2, (0, (0, (false, (true, 2))))), true)
 else if op = 14 then ((3, (0, (0, (false, (false, 2))))), true)
 else if op = 15 then ((1, (0, (0, (false, (true, 0))))), true)
 else if op = 16 then ((0, (1, (3, (false, (true, 2))))), true)
 else if op = 17 then ((2, (0, (0, (false, (false, 1))))), true)
 else if op = 18 then ((0, (0, (0, (false, (true, 2))))), true)
 else if op = 19 then ((0, (1, (1073741824, (false, (false, 2))))), true)
 else ((0, (0, (0, (false, (false, 0))))), false)
def of__lv : LV := ⟨([]), []⟩
noncomputable def of__T (op : Int) : Tree :=
 .ite (decide (op = 1))
 (.ret (.tup [.agg [.int .i64 0, .int .i64 0, .int .i64 1073741824, .lit false, .lit true, .int .i64 0], .c (.lit true)]) [.cells 149 [.int .i64 0, .int .i64 0, .int .i64 1073741824, .lit false, .lit true, .int .i64 0]])
 (.ite (decide (op = 2))
  (.ret (.tup [.agg [.int .i64 0, .int .i64 0, .int .i64 0, .lit true, .lit true, .int .i64 0], .c (.lit true)]) [.cells 149 [.int .i64 0, .int .i64 0, .int .i64 0, .lit true, .lit true, .int .i64 0]])
  (.ite (decide (op = 3))
  (.ret (.tup [.agg [.int .i64 0, .int .i64 0, .int .i64 0, .lit false, .lit true, .int .i64 0], .c (.lit true)]) [.cells 149 [.int .i64 0, .int .i64 0, .int .i64 0, .lit false, .lit true, .int .i64 0]])
  (.ite (decide (op = 4))
   (.ret (.tup [.agg [.int .i64 1, .int .i64 0, .int .i64 6, .lit false, .lit false, .int .i64 2], .c (.lit true)]) [.cells 149 [.int .i64 1, .int .i64 0, .int .i64 6, .lit false, .lit false, .int .i64 2]])
   (.ite (decide (op = 5))
   (.ret (.tup [.agg [.int .i64 1, .int .i64 0, .int .i64 1, .lit false, .lit false, .int .i64 2], .c (.lit true)]) [.cells 149 [.int .i64 1, .int .i64 0, .int .i64 1, .lit false, .lit false, .int .i64 2]])
   (.ite (decide (op = 6))
    (.ret (.tup [.agg [.int .i64 1, .int .i64 0, .int .i64 0, .lit true, .lit false, .int .i64 2], .c (.lit true)]) [.cells 149 [.int .i64 1, .int .i64 0, .int .i64 0, .lit true, .lit false, .int .i64 2]])
    (.ite (decide (op = 7))
    (.ret (.tup [.agg [.int .i64 2, .int .i64 3, .int .i64 10, .lit false, .lit true, .int .i64 1], .c (.lit true)]) [.cells 149 [.int .i64 2, .int .i64 3, .int .i64 10, .lit false, .lit true, .int .i64 1]])
    (.ite (decide (op = 8))
     (.ret (.tup [.agg [.int .i64 1, .int .i64 11, .int .i64 12, .lit false, .lit true, .int .i64 1], .c (.lit true)]) [.cells 149 [.int .i64 1, .int .i64 11, .int .i64 12, .lit false, .lit true, .int .i64 1]])
     (.ite (decide (op = 9))
     (.ret (.tup [.agg [.int .i64 1, .int .i64 1, .int .i64 7, .lit false, .lit false, .int .i64 2], .c (.lit true)]) [.cells 149 [.int .i64 1, .int .i64 1, .int .i64 7, .lit false, .lit false, .int .i64 2]])
     (.ite (decide (op = 10))
      (.ret (.tup [.agg [.int .i64 1, .int .i64 0, .int .i64 99, .lit false, .lit true, .int .i64 0], .c (.lit true)]) [.cells 149 [.int .i64 1, .int .i64 0, .int .i64 99, .lit false, .lit true, .int .i64 0]])
      (.ite (decide (op = 11))
      (.ret (.tup [.agg [.int .i64 2, .int .i64 0, .int .i64 99, .lit false, .lit false, .int .i64 0], .c (.lit true)]) [.cells 149 [.int .i64 2, .int .i64 0, .int .i64 99, .lit false, .lit false, .int .i64 0]])
      (.ite (decide (op = 12))
       (.ret (.tup [.agg [.int .i64 2, .int .i64 1, .int .i64 1073741824, .lit false, .lit false, .int .i64 2], .c (.lit true)]) [.cells 149 [.int .i64 2, .int .i64 1, .int .i64 1073741824, .lit false, .lit false, .int .i64 2]])
       (.ite (decide (op = 13))
       (.ret (.tup [.agg [.int .i64 2, .int .i64 0, .int .i64 0, .lit false, .lit true, .int .i64 2], .c (.lit true)]) [.cells 149 [.int .i64 2, .int .i64 0, .int .i64 0, .lit false, .lit true, .int .i64 2]])
       (.ite (decide (op = 14))
        (.ret (.tup [.agg [.int .i64 3, .int .i64 0, .int .i64 0, .lit false, .lit false, .int .i64 2], .c (.lit true)]) [.cells 149 [.int .i64 3, .int .i64 0, .int .i64 0, .lit false, .lit false, .int .i64 2]])
        (.ite (decide (op = 15))
        (.ret (.tup [.agg [.int .i64 1, .int .i64 0, .int .i64 0, .lit false, .lit true, .int .i64 0], .c (.lit true)]) [.cells 149 [.int .i64 1, .int .i64 0, .int .i64 0, .lit false, .lit true, .int .i64 0]])
        (.ite (decide (op = 16))
         (.ret (.tup [.agg [.int .i64 0, .int .i64 1, .int .i64 3, .lit false, .lit true, .int .i64 2], .c (.lit true)]) [.cells 149 [.int .i64 0, .int .i64 1, .int .i64 3, .lit false, .lit true, .int .i64 2]])
         (.ite (decide (op = 17))
         (.ret (.tup [.agg [.int .i64 2, .int .i64 0, .int .i64 0, .lit false, .lit false, .int .i64 1], .c (.lit true)]) [.cells 149 [.int .i64 2, .int .i64 0, .int .i64 0, .lit false, .lit false, .int .i64 1]])
         (.ite (decide (op = 18))
          (.ret (.tup [.agg [.int .i64 0, .int .i64 0, .int .i64 0, .lit false, .lit true, .int .i64 2], .c (.lit true)]) [.cells 149 [.int .i64 0, .int .i64 0, .int .i64 0, .lit false, .lit true, .int .i64 2]])
          (.ite (decide (op = 19))
          (.ret (.tup [.agg [.int .i64 0, .int .i64 1, .int .i64 1073741824, .lit false, .lit false, .int .i64 2], .c (.lit true)]) [.cells 149 [.int .i64 0, .int .i64 1, .int .i64 1073741824, .lit false, .lit false, .int .i64 2]])
          (.ret (.tup [.agg [.int .i64 0, .int .i64 0, .int .i64 0, .lit false, .lit false, .int .i64 0], .c (.lit false)]) [.cells 149 [.int .i64 0, .int .i64 0, .int .i64 0, .lit false, .lit false, .int .i64 0]])))))))))))))))))))
theorem of__fun (op : Int) : AFun Tryz.prog 68 [.c (.int .i64 op)] (.tup [.agg (Ty.enc tForm ((ofF op).1)), .c (.bool ((ofF op).2))]) :=
 AFun.of oc0 of__lv 3000 Tryz.func68 mixed rfl (by decide) (Nat.le_of_ble_eq_true rfl) (of__T op) (by kernel_rfl) fun hF => by
  unfold of__T
  repeat' first
  | with_reducible refine g_iteD (fun h => ?_) (fun h => ?_)
  | exact g_rt rfl rfl (by simp_all [leAV, leA1, leA1s, leCs, leC, Ty.enc, ofF])

end Go.Proofs.YtkonkblfckhcbaaGreatDoor
namespace Go.Proofs.YtkonkblfckhcbaaGreatDoor
set_option linter.unusedVariables false
set_option linter.unusedSimpArgs false
set_option maxRecDepth 100000
def tellF (op : Int) : Bool := (ofF op).1.2.2.2.2.1
noncomputable def oc1 : Orc where
 pure := fun f args => match f, args with
  | 68, [a0] => match dA tI a0 with
   | some x0 => some (.tup [.agg (Ty.enc tForm ((ofF x0).1)), .c (.bool ((ofF x0).2))])
   | _ => none
  | _, _ => none
 heap := fun _ _ _ => none
def tells_lv : LV := ⟨([]), []⟩
noncomputable def tells_T (op : Int) : Tree :=
 .call 68 [.c (.int .i64 op)] false (.tup [.agg (Ty.enc tForm (ofF op).1), .c (.bool (ofF op).2)]) <|
 .ret (.c (.bool (ofF op).1.2.2.2.2.1)) [.cells 149 (Ty.enc tForm (ofF op).1)]
theorem tells_fun (op : Int) : AFun Tryz.prog 42 [.c (.int .i64 op)] (.c (.bool (tellF op))) :=
 AFun.of oc1 tells_lv 3000 Tryz.func42 mixed rfl (by decide) (Nat.le_of_ble_eq_true rfl) (tells_T op) (by kernel_rfl) fun hF => by
  unfold tells_T
  refine g_call (of__fun op) (fun h => nomatch h) ?_
  exact g_retb (by rfl)

def askF (x : EIns) : List Int := if (ofF x.1).2 = true then [x.2.1, x.2.2.1, x.2.2.2.1].take (ofF x.1).1.1.toNat else []
theorem ofF_asks (op : Int) : 0 ≤ (ofF op).1.1 ∧ (ofF op).1.1 ≤ 3 := by
 unfold ofF
 repeat' first | exact ⟨by decide, by decide⟩ | refine iteP (fun r : EForm × Bool => 0 ≤ r.1.1 ∧ r.1.1 ≤ 3) ?_ ?_
noncomputable def oc2 : Orc where
 pure := fun f args => match f, args with
  | 68, [a0] => match dA tI a0 with
   | some x0 => some (.tup [.agg (Ty.enc tForm ((ofF x0).1)), .c (.bool ((ofF x0).2))])
   | _ => none
  | _, _ => none
 heap := fun _ _ _ => none
def asks_lv : LV := ⟨([]), []⟩
noncomputable def asks_T (x : EIns) : Tree :=
 .call 68 [.c (.int .i64 x.1)] false (.tup [.agg (Ty.enc tForm (ofF x.1).1), .c (.bool (ofF x.1).2)]) <|
 .ite ((!(ofF x.1).2))
 (.ret (.c (.nilsl)) [.cells 97 (Ty.enc tIns x), .cells 149 (Ty.enc tForm (ofF x.1).1)])
 (.need (([0, 0, 0]).length = 3) <|
  .need ((0 : Int) ≤ (ofF x.1).1.1 ∧ ((ofF x.1).1.1 : Int) ≤ ((3 : Nat) : Int) ∧ 3 ≤ ([x.2.1, x.2.2.1, x.2.2.2.1]).length) <|
  .need ((Int.toNat (ofF x.1).1.1) ≤ ([x.2.1, x.2.2.1, x.2.2.2.1]).length) <|
  .need ((([x.2.1, x.2.2.1, x.2.2.2.1]).take (Int.toNat (ofF x.1).1.1)).length * 8 ≤ 140737488355328) <|
  .ite ((([x.2.1, x.2.2.1, x.2.2.2.1]).take (Int.toNat (ofF x.1).1.1)).isEmpty)
  (.ret (.c (.nilsl)) [.cells 97 (Ty.enc tIns x), .cells 149 (Ty.enc tForm (ofF x.1).1), .vec 175 tI ([x.2.1, x.2.2.1, x.2.2.2.1])])
  (.ret (.c (.sl 3 1 0 (([x.2.1, x.2.2.1, x.2.2.2.1]).take (Int.toNat (ofF x.1).1.1)).length)) [.cells 97 (Ty.enc tIns x), .cells 149 (Ty.enc tForm (ofF x.1).1), .vec 175 tI ([x.2.1, x.2.2.1, x.2.2.2.1]), .vec 3 tI (([x.2.1, x.2.2.1, x.2.2.2.1]).take (Int.toNat (ofF x.1).1.1))]))
theorem asks_fun (x : EIns) : AFun Tryz.prog 41 [.agg (tIns.enc x)] (.c (.ro tI (askF x))) :=
 AFun.of oc2 asks_lv 3000 Tryz.func41 mixed rfl (by decide) (Nat.le_of_ble_eq_true rfl) (asks_T x) (by kernel_rfl) fun hF => by
  unfold asks_T
  repeat' first
  | with_reducible refine g_iteN (fun h => ?_) (fun h => ?_)
  | with_reducible refine g_ite (fun h => ?_) (fun h => ?_)
  | refine g_need (by first | (exact rfl) | (have := ofF_asks x.1; simp [List.length_take]; omega)) ?_
  | refine g_call (of__fun x.1) (fun h => nomatch h) ?_
  | exact g_rn (by simp_all [askF])
  | exact g_rs rfl (by exact rfl) (by simp_all [askF])

def valueF (c : EChk) (v at_ : Int) : Bool := if 0 ≤ v then (if v < at_ then (if v < (c.2.2.2.2.1.length : Int) then tellF (c.2.2.2.2.1.getD v.toNat tIns.dflt).1 else false) else false) else false
noncomputable def oc3 : Orc where
 pure := fun f args => match f, args with
  | 42, [a0] => match dA tI a0 with
   | some x0 => some (.c (.bool (tellF x0)))
   | _ => none
  | _, _ => none
 heap := fun _ _ _ => none
def value_lv : LV := ⟨([]), []⟩
noncomputable def value_T (c : EChk) (v : Int) (at_ : Int) : Tree :=
 .ite (decide ((0 : Int) ≤ v))
 (.ite (decide (v < at_))
  (.ite (decide (v < (c.2.2.2.2.1.length : Int)))
  (.need ((0 : Int) ≤ v ∧ (v : Int) < (c.2.2.2.2.1.length : Int)) <|
   .need ((Int.toNat v) < c.2.2.2.2.1.length) <|
   .call 42 [.c (.int .i64 (c.2.2.2.2.1.getD (Int.toNat v) tIns.dflt).1)] false (.c (.bool (tellF (c.2.2.2.2.1.getD (Int.toNat v) tIns.dflt).1))) <|
   .ret (.c (.bool (tellF (c.2.2.2.2.1.getD (Int.toNat v) tIns.dflt).1))) [.cells 147 (Ty.enc tChk c)])
  (.ret (.c (.lit false)) [.cells 147 (Ty.enc tChk c)]))
  (.ret (.c (.lit false)) [.cells 147 (Ty.enc tChk c)]))
 (.ret (.c (.lit false)) [.cells 147 (Ty.enc tChk c)])
theorem value_fun (c : EChk) (v : Int) (at_ : Int) : AFun Tryz.prog 131 [.agg (tChk.enc c), .c (.int .i64 v), .c (.int .i64 at_)] (.c (.bool (valueF c v at_))) :=
 AFun.of oc3 value_lv 3000 Tryz.func131 mixed rfl (by decide) (Nat.le_of_ble_eq_true rfl) (value_T c v at_) (by kernel_rfl) fun hF => by
  unfold value_T
  repeat' first
  | with_reducible refine g_iteD (fun h => ?_) (fun h => ?_)
  | refine g_need (by omega) ?_
  | refine g_call (tells_fun (c.2.2.2.2.1.getD (Int.toNat v) tIns.dflt).1) (fun h => nomatch h) ?_
  | exact g_retb (by simp only [valueF, *, if_true, if_false])
  | exact g_retl (by simp only [valueF, *, if_true, if_false])

def valuesF (c : EChk) (l : List Int) (at_ : Int) : Bool := l.all fun v => valueF c v at_
noncomputable def oc4 : Orc where
 pure := fun f args => match f, args with
  | 131, [a0, a1, a2] => match dA tChk a0, dA tI a1, dA tI a2 with
   | some x0, some x1, some x2 => some (.c (.bool (valueF x0 x1 x2)))
   | _, _, _ => none
  | _, _ => none
 heap := fun _ _ _ => none
def values_lv : LV := ⟨(F2 (true :: true :: F4 (false :: true :: true :: true :: F8 (false :: [])))), []⟩
noncomputable def values_T (c : EChk) (l : List Int) (at_ : Int) : Tree :=
 .stop (lp (bodyOf Tryz.f129) 0) (J2 (.c (.int .i64 at_) :: .c (.ptr 0 0 0 0) :: J4 (.junk :: .c (.ro tI l) :: .c (.int .i64 (l.length : Int)) :: .c (.int .i64 0) :: J8 (.junk :: [])))) [.cells 147 (Ty.enc tChk c)]
noncomputable def values_l0_R (c : EChk) (l : List Int) (at_ : Int) (i : Nat) : Tree :=
 .ite (decide (((i : Nat) : Int) < (l.length : Int)))
 (.need ((0 : Int) ≤ ((i : Nat) : Int) ∧ (((i : Nat) : Int) : Int) < (l.length : Int)) <|
  .need (i < l.length) <|
  .call 131 [.agg (Ty.enc tChk c), .c (.int .i64 (l.getD i tI.dflt)), .c (.int .i64 at_)] false (.c (.bool (valueF c (l.getD i tI.dflt) at_))) <|
  .ite ((!(valueF c (l.getD i tI.dflt) at_)))
  (.ret (.c (.lit false)) [.cells 147 (Ty.enc tChk c)])
  (.need (inR .i64 (((i : Nat) : Int) + 1)) <|
  .stop (lp (bodyOf Tryz.f129) 0) (J2 (.c (.int .i64 at_) :: .c (.ptr 0 0 0 0) :: J4 (.junk :: .c (.ro tI l) :: .c (.int .i64 (l.length : Int)) :: .c (.int .i64 (((i : Nat) : Int) + 1)) :: J8 (.junk :: [])))) [.cells 147 (Ty.enc tChk c)]))
 (.ret (.c (.lit true)) [.cells 147 (Ty.enc tChk c)])
theorem values_l0 (c : EChk) (l : List Int) (at_ : Int) (i : Nat) (hl : l.length ≤ 9223372036854775807) : Run Tryz.prog 129 (retQ Tryz.prog (.c (.bool ((l.drop i).all fun v => valueF c v at_)))) (lp (bodyOf Tryz.f129) 0) (J2 (.c (.int .i64 at_) :: .c (.ptr 0 0 0 0) :: J4 (.junk :: .c (.ro tI l) :: .c (.int .i64 (l.length : Int)) :: .c (.int .i64 ((i : Nat) : Int)) :: J8 (.junk :: [])))) [.cells 147 (Ty.enc tChk c)] :=
 Run.roundA oc4 values_lv 3000 Tryz.func129 mixed (values_l0_R c l at_ i) (by kernel_rfl) (by
  unfold values_l0_R
  refine g_iteD (fun h0 => ?_) (fun h0 => ?_)
  ·refine g_need (by omega) ?_
   refine g_need (by omega) ?_
   refine g_call (value_fun c (l.getD i tI.dflt) at_) (fun h => nomatch h) ?_
   refine g_iteN (fun h1 => ?_) (fun h1 => ?_)
   ·exact g_retl (by rw [dropCons (Ty.dflt tI) (by omega), List.all_cons, h1]; rfl)
   ·refine g_need (i64_iff.2 (by omega)) ?_
    refine g_stop (RunN.keep [0] (F2 (true :: true :: F4 (false :: true :: true :: true :: F8 (false :: [])))) n0 (by decide) rfl rfl ?_)
    have := values_l0 c l at_ (i + 1) hl; rw [dropCons (Ty.dflt tI) (by omega), List.all_cons, h1, Bool.true_and]; exact this
  ·exact g_retl (by rw [List.drop_eq_nil_of_le (by omega)]; rfl)
  )
 termination_by l.length - i
 decreasing_by all_goals omega
theorem values_fun (c : EChk) (l : List Int) (at_ : Int) : AFun Tryz.prog 129 [.agg (tChk.enc c), .c (.ro tI l), .c (.int .i64 at_)] (.c (.bool (valuesF c l at_))) :=
 AFun.of oc4 values_lv 3000 Tryz.func129 mixed rfl (by decide) (Nat.le_of_ble_eq_true rfl) (values_T c l at_) (by kernel_rfl) fun hF => by
  unfold values_T
  refine g_stop (RunN.keep [0] (F2 (true :: true :: F4 (false :: true :: true :: true :: F8 (false :: [])))) n0 (by decide) rfl rfl ?_)
  have := values_l0 c l at_ 0 hF.cons.2.ro.1.1; simp only [List.drop_zero] at this; exact this

end Go.Proofs.YtkonkblfckhcbaaGreatDoor
namespace Go.Proofs.YtkonkblfckhcbaaGreatDoor
set_option linter.unusedVariables false
set_option linter.unusedSimpArgs false
set_option maxRecDepth 100000
noncomputable def oc5 : Orc where
 pure := fun f args => match f, args with
  | 129, [a0, a1, a2] => match dA tChk a0, dA (.slice tI) a1, dA tI a2 with
   | some x0, some x1, some x2 => some (.c (.bool (valuesF x0 x1 x2)))
   | _, _, _ => none
  | 131, [a0, a1, a2] => match dA tChk a0, dA tI a1, dA tI a2 with
   | some x0, some x1, some x2 => some (.c (.bool (valueF x0 x1 x2)))
   | _, _, _ => none
  | _, _ => none
 heap := fun _ _ _ => none
def makeF (c : EChk) (m : EMake) (at_ : Int) : Bool :=
 if (!(valueF c m.1 at_)) = true then false
 else if (!(decide ((c.2.2.2.2.1.getD (Int.toNat m.1) tIns.dflt).1 = 18))) = true then false
 else if m.2.1 < 1 then false
 else if (3 : Int) < m.2.1 then false
 else if m.2.2.1 < 0 then false
 else if (0 : Int) < m.2.2.1 then if (!(decide (m.2.1 = 1))) = true then false
  else if (m.2.2.2.length : Int) ≤ 100 then valuesF c m.2.2.2 at_
  else false
 else if (m.2.2.2.length : Int) ≤ 100 then valuesF c m.2.2.2 at_
 else false
def make_lv : LV := ⟨([]), []⟩
abbrev gCc1 (c : EChk) (m : EMake) : List AB := [.cells 147 (Ty.enc tChk c), .cells 212 (Ty.enc tMake m)]
noncomputable def make_T (c : EChk) (m : EMake) (at_ : Int) : Tree :=
 .call 131 [.agg (Ty.enc tChk c), .c (.int .i64 m.1), .c (.int .i64 at_)] false (.c (.bool (valueF c m.1 at_))) <|
 .ite ((!(valueF c m.1 at_)))
 (.ret (.c (.lit false)) (gCc1 c m))
 (.need ((0 : Int) ≤ m.1 ∧ (m.1 : Int) < (c.2.2.2.2.1.length : Int)) <|
  .need ((Int.toNat m.1) < c.2.2.2.2.1.length) <|
  .ite ((!(decide ((c.2.2.2.2.1.getD (Int.toNat m.1) tIns.dflt).1 = 18))))
  (.ret (.c (.lit false)) (gCc1 c m))
  (.ite (decide (m.2.1 < 1))
  (.ret (.c (.lit false)) (gCc1 c m))
  (.ite (decide ((3 : Int) < m.2.1))
   (.ret (.c (.lit false)) (gCc1 c m))
   (.ite (decide (m.2.2.1 < 0))
   (.ret (.c (.lit false)) (gCc1 c m))
   (.ite (decide ((0 : Int) < m.2.2.1))
    (.ite ((!(decide (m.2.1 = 1))))
    (.ret (.c (.lit false)) (gCc1 c m))
    (.ite (decide ((m.2.2.2.length : Int) ≤ 100))
     (.call 129 [.agg (Ty.enc tChk c), .c (.ro tI m.2.2.2), .c (.int .i64 at_)] false (.c (.bool (valuesF c m.2.2.2 at_))) <|
     .ret (.c (.bool (valuesF c m.2.2.2 at_))) (gCc1 c m))
     (.ret (.c (.lit false)) (gCc1 c m))))
    (.ite (decide ((m.2.2.2.length : Int) ≤ 100))
    (.call 129 [.agg (Ty.enc tChk c), .c (.ro tI m.2.2.2), .c (.int .i64 at_)] false (.c (.bool (valuesF c m.2.2.2 at_))) <|
     .ret (.c (.bool (valuesF c m.2.2.2 at_))) (gCc1 c m))
    (.ret (.c (.lit false)) (gCc1 c m))))))))
theorem valueF_len {c : EChk} {v at_ : Int} (h : valueF c v at_ = true) : 0 ≤ v ∧ v < at_ ∧ v < (c.2.2.2.2.1.length : Int) ∧ tellF (c.2.2.2.2.1.getD v.toNat tIns.dflt).1 = true := by
 unfold valueF at h
 split at h
 ·split at h
  ·split at h
   ·exact ⟨by assumption, by assumption, by assumption, h⟩
   ·cases h
  ·cases h
 ·cases h
theorem make_fun (c : EChk) (m : EMake) (at_ : Int) : AFun Tryz.prog 132 [.agg (tChk.enc c), .agg (tMake.enc m), .c (.int .i64 at_)] (.c (.bool (makeF c m at_))) :=
 AFun.of oc5 make_lv 3000 Tryz.func132 mixed rfl (by decide) (Nat.le_of_ble_eq_true rfl) (make_T c m at_) (by kernel_rfl) fun hF => by
  unfold make_T
  refine g_call (value_fun c m.1 at_) (fun h => nomatch h) ?_
  refine g_iteN (fun h0 => ?_) (fun h0 => ?_)
  ·exact g_retl (by simp only [makeF, h0, if_true, if_false]; try rfl)
  ·refine g_need (by have := valueF_len h0; omega) ?_
   refine g_need (by have := valueF_len h0; omega) ?_
   refine g_iteND (fun h1 => ?_) (fun h1 => ?_)
   ·exact g_retl (by simp only [makeF, h0, h1, if_true, if_false]; try rfl)
   ·refine g_iteD (fun h2 => ?_) (fun h2 => ?_)
    ·exact g_retl (by simp only [makeF, h0, h1, h2, if_true, if_false]; try rfl)
    ·refine g_iteD (fun h3 => ?_) (fun h3 => ?_)
     ·exact g_retl (by simp only [makeF, h0, h1, h2, h3, if_true, if_false]; try rfl)
     ·refine g_iteD (fun h4 => ?_) (fun h4 => ?_)
      ·exact g_retl (by simp only [makeF, h0, h1, h2, h3, h4, if_true, if_false]; try rfl)
      ·refine g_iteD (fun h5 => ?_) (fun h5 => ?_)
       ·refine g_iteND (fun h6 => ?_) (fun h6 => ?_)
        ·exact g_retl (by simp only [makeF, h0, h1, h2, h3, h4, h5, h6, if_true, if_false]; try rfl)
        ·refine g_iteD (fun h7 => ?_) (fun h7 => ?_)
         ·refine g_call (values_fun c m.2.2.2 at_) (fun h => nomatch h) ?_
          exact g_retb (by simp only [makeF, h0, h1, h2, h3, h4, h5, h6, h7, if_true, if_false]; try rfl)
         ·exact g_retl (by simp only [makeF, h0, h1, h2, h3, h4, h5, h6, h7, if_true, if_false]; try rfl)
       ·refine g_iteD (fun h6 => ?_) (fun h6 => ?_)
        ·refine g_call (values_fun c m.2.2.2 at_) (fun h => nomatch h) ?_
         exact g_retb (by simp only [makeF, h0, h1, h2, h3, h4, h5, h6, if_true, if_false]; try rfl)
        ·exact g_retl (by simp only [makeF, h0, h1, h2, h3, h4, h5, h6, if_true, if_false]; try rfl)

def bareF (x : EExit) : Bool :=
 if x.1 = 0 then if x.2.1 = 0 then if (x.2.2.1.length : Int) = 0 then decide ((x.2.2.2.length : Int) = 0)
   else false
  else false
 else false
def bare_lv : LV := ⟨([]), []⟩
noncomputable def bare_T (x : EExit) : Tree :=
 .ite (decide (x.1 = 0))
 (.ite (decide (x.2.1 = 0))
  (.ite (decide ((x.2.2.1.length : Int) = 0))
  (.ret (.c (.bool (decide ((x.2.2.2.length : Int) = 0)))) [.cells 32 (Ty.enc tExit x)])
  (.ret (.c (.lit false)) [.cells 32 (Ty.enc tExit x)]))
  (.ret (.c (.lit false)) [.cells 32 (Ty.enc tExit x)]))
 (.ret (.c (.lit false)) [.cells 32 (Ty.enc tExit x)])
theorem bare_fun (x : EExit) : AFun Tryz.prog 70 [.agg (tExit.enc x)] (.c (.bool (bareF x))) :=
 AFun.of oc0 bare_lv 3000 Tryz.func70 mixed rfl (by decide) (Nat.le_of_ble_eq_true rfl) (bare_T x) (by kernel_rfl) fun hF => by
  unfold bare_T
  repeat' first
  | with_reducible refine g_iteD (fun h => ?_) (fun h => ?_)
  | (exact g_retb (by simp only [bareF, *, if_true, if_false]; try rfl))
  | (exact g_retl (by simp only [bareF, *, if_true, if_false]; try rfl))

def setsF (c : EChk) (at_ : Int) : Int → List ESet → Bool
 | _, [] => true
 | last, s :: r => if s.1 ≤ last then false else if c.1.2.1 ≤ s.1 then false else if valueF c s.2 at_ = false then false else setsF c at_ s.1 r
def makesF (c : EChk) (at_ : Int) : Int → List EMake → Bool
 | _, [] => true
 | last, m :: r => if m.1 ≤ last then false else if makeF c m at_ = false then false else makesF c at_ m.1 r
def rightXF (c : EChk) (x : EExit) (at_ : Int) : Bool :=
 if x.1 < 0 then false else if (c.1.2.2.2.2.length : Int) ≤ x.1 then false else if x.2.1 < 0 then false else if 200 < x.2.1 then false else setsF c at_ (-1) x.2.2.1 && makesF c at_ (-1) x.2.2.2
noncomputable def oc6 : Orc where
 pure := fun f args => match f, args with
  | 131, [a0, a1, a2] => match dA tChk a0, dA tI a1, dA tI a2 with
   | some x0, some x1, some x2 => some (.c (.bool (valueF x0 x1 x2)))
   | _, _, _ => none
  | 132, [a0, a1, a2] => match dA tChk a0, dA tMake a1, dA tI a2 with
   | some x0, some x1, some x2 => some (.c (.bool (makeF x0 x1 x2)))
   | _, _, _ => none
  | _, _ => none
 heap := fun _ _ _ => none
def rightX_lv : LV := ⟨(F2 (true :: true :: true :: F2 (true :: F16 (F8 (F2 (false :: true :: true :: true :: F16 (F8 (F2 (false :: true :: true :: true :: F16 (false :: [])))))))))), []⟩
abbrev gCc2 (c : EChk) (x : EExit) : List AB := [.cells 147 (Ty.enc tChk c), .cells 32 (Ty.enc tExit x)]
noncomputable def rightX_T (c : EChk) (x : EExit) (at_ : Int) : Tree :=
 .ite (decide (x.1 < 0))
 (.ret (.c (.lit false)) (gCc2 c x))
 (.ite (decide ((c.1.2.2.2.2.length : Int) ≤ x.1))
  (.ret (.c (.lit false)) (gCc2 c x))
  (.ite (decide (x.2.1 < 0))
  (.ret (.c (.lit false)) (gCc2 c x))
  (.ite (decide ((200 : Int) < x.2.1))
   (.ret (.c (.lit false)) (gCc2 c x))
   (.stop (lp (bodyOf Tryz.f71) 0) (J2 (.c (.int .i64 at_) :: .c (.ptr 0 0 0 0) :: .c (.ptr 1 0 0 0) :: J2 (.c (.int .i64 (-1)) :: J16 (J8 (J2 (.junk :: .c (.ro tVal x.2.2.1) :: .c (.int .i64 (x.2.2.1.length : Int)) :: .c (.int .i64 0) :: J32 (J8 (J4 (J2 (.junk :: [])))))))))) (gCc2 c x)))))
abbrev gCc0 (c : EChk) (x : EExit) (i : Nat) : List AB := [.cells 147 (Ty.enc tChk c), .cells 32 (Ty.enc tExit x), .cells 66 (Ty.enc tVal (x.2.2.1.getD i tVal.dflt))]
noncomputable def rightX_l0_R (c : EChk) (x : EExit) (at_ : Int) (last : Int) (i : Nat) : Tree :=
 .ite (decide (((i : Nat) : Int) < (x.2.2.1.length : Int)))
 (.need ((0 : Int) ≤ ((i : Nat) : Int) ∧ (((i : Nat) : Int) : Int) < (x.2.2.1.length : Int)) <|
  .need (i < x.2.2.1.length) <|
  .ite (decide ((x.2.2.1.getD i tVal.dflt).1 ≤ last))
  (.ret (.c (.lit false)) (gCc0 c x i))
  (.ite (decide (c.1.2.1 ≤ (x.2.2.1.getD i tVal.dflt).1))
  (.ret (.c (.lit false)) (gCc0 c x i))
  (.call 131 [.agg (Ty.enc tChk c), .c (.int .i64 (x.2.2.1.getD i tVal.dflt).2), .c (.int .i64 at_)] false (.c (.bool (valueF c (x.2.2.1.getD i tVal.dflt).2 at_))) <|
   .ite ((!(valueF c (x.2.2.1.getD i tVal.dflt).2 at_)))
   (.ret (.c (.lit false)) (gCc0 c x i))
   (.need (inR .i64 (((i : Nat) : Int) + 1)) <|
   .stop (lp (bodyOf Tryz.f71) 0) (J2 (.c (.int .i64 at_) :: .c (.ptr 0 0 0 0) :: .c (.ptr 1 0 0 0) :: J2 (.c (.int .i64 (x.2.2.1.getD i tVal.dflt).1) :: J16 (J8 (J2 (.junk :: .c (.ro tVal x.2.2.1) :: .c (.int .i64 (x.2.2.1.length : Int)) :: .c (.int .i64 (((i : Nat) : Int) + 1)) :: J32 (J8 (J4 (J2 (.junk :: [])))))))))) (gCc0 c x i)))))
 (.stop (lp (bodyOf Tryz.f71) 1) (J2 (.c (.int .i64 at_) :: .c (.ptr 0 0 0 0) :: .c (.ptr 1 0 0 0) :: J2 (.c (.int .i64 (-1)) :: J16 (J8 (J2 (.junk :: .c (.ro tVal x.2.2.1) :: .c (.int .i64 (x.2.2.1.length : Int)) :: .c (.int .i64 ((i : Nat) : Int)) :: J16 (J8 (J2 (.junk :: .c (.ro tMake x.2.2.2) :: .c (.int .i64 (x.2.2.2.length : Int)) :: .c (.int .i64 0) :: J16 (.junk :: [])))))))))) (gCc2 c x))
noncomputable def rightX_l1_R (c : EChk) (x : EExit) (at_ : Int) (last : Int) (i : Nat) : Tree :=
 .ite (decide (((i : Nat) : Int) < (x.2.2.2.length : Int)))
 (.need ((0 : Int) ≤ ((i : Nat) : Int) ∧ (((i : Nat) : Int) : Int) < (x.2.2.2.length : Int)) <|
  .need (i < x.2.2.2.length) <|
  .ite (decide ((x.2.2.2.getD i tMake.dflt).1 ≤ last))
  (.ret (.c (.lit false)) [.cells 147 (Ty.enc tChk c), .cells 212 (Ty.enc tMake (x.2.2.2.getD i tMake.dflt))])
  (.call 132 [.agg (Ty.enc tChk c), .agg (Ty.enc tMake (x.2.2.2.getD i tMake.dflt)), .c (.int .i64 at_)] false (.c (.bool (makeF c (x.2.2.2.getD i tMake.dflt) at_))) <|
  .ite ((!(makeF c (x.2.2.2.getD i tMake.dflt) at_)))
  (.ret (.c (.lit false)) [.cells 147 (Ty.enc tChk c), .cells 212 (Ty.enc tMake (x.2.2.2.getD i tMake.dflt))])
  (.need (inR .i64 (((i : Nat) : Int) + 1)) <|
   .stop (lp (bodyOf Tryz.f71) 1) (J2 (.c (.int .i64 at_) :: .c (.ptr 0 0 0 0) :: J2 (.junk :: .c (.int .i64 (x.2.2.2.getD i tMake.dflt).1) :: J32 (J16 (J8 (.junk :: .c (.ro tMake x.2.2.2) :: .c (.int .i64 (x.2.2.2.length : Int)) :: .c (.int .i64 (((i : Nat) : Int) + 1)) :: J16 (.junk :: []))))))) [.cells 147 (Ty.enc tChk c), .cells 212 (Ty.enc tMake (x.2.2.2.getD i tMake.dflt))])))
 (.ret (.c (.lit true)) [.cells 147 (Ty.enc tChk c)])
theorem rightX_l1 (c : EChk) (x : EExit) (at_ : Int) (last : Int) (i : Nat) (hl : x.2.2.2.length ≤ 9223372036854775807) : Run Tryz.prog 71 (retQ Tryz.prog (.c (.bool (makesF c at_ last (x.2.2.2.drop i))))) (lp (bodyOf Tryz.f71) 1) (J2 (.c (.int .i64 at_) :: .c (.ptr 0 0 0 0) :: J2 (.junk :: .c (.int .i64 last) :: J32 (J16 (J8 (.junk :: .c (.ro tMake x.2.2.2) :: .c (.int .i64 (x.2.2.2.length : Int)) :: .c (.int .i64 ((i : Nat) : Int)) :: J16 (.junk :: []))))))) [.cells 147 (Ty.enc tChk c)] :=
 Run.roundA oc6 rightX_lv 3000 Tryz.func71 mixed (rightX_l1_R c x at_ last i) (by kernel_rfl) (by
  unfold rightX_l1_R
  repeat' first
  | with_reducible refine g_iteD (fun h => ?_) (fun h => ?_)
  | with_reducible refine g_iteN (fun h => ?_) (fun h => ?_)
  | refine g_need (by first | (omega) | (rw [i64_iff]; omega)) ?_
  | (exact g_retl (by rw [dropCons (α := EMake) (Ty.dflt tMake) (by omega)]; simp only [makesF, *, if_true, if_false]))
  | refine g_call (make_fun c (x.2.2.2.getD i tMake.dflt) at_) (fun h => nomatch h) ?_
  | (refine g_stop (RunN.keep [0] (F2 (true :: true :: F2 (false :: true :: F32 (F16 (F8 (false :: true :: true :: true :: F16 (false :: []))))))) n0 (by decide) rfl rfl ?_); have := rightX_l1 c x at_ (x.2.2.2.getD i tMake.dflt).1 (i + 1) hl; rw [dropCons (α := EMake) (Ty.dflt tMake) (by omega)]; simp only [makesF, *, if_true, if_false]; exact this)
  | (exact g_retl (by rw [List.drop_eq_nil_of_le (by omega)]; rfl))
  )
 termination_by x.2.2.2.length - i
 decreasing_by all_goals omega
theorem rightX_l0 (c : EChk) (x : EExit) (at_ : Int) (last : Int) (i : Nat) (hl : x.2.2.1.length ≤ 9223372036854775807) (hl2 : x.2.2.2.length ≤ 9223372036854775807) : Run Tryz.prog 71 (retQ Tryz.prog (.c (.bool (setsF c at_ last (x.2.2.1.drop i) && makesF c at_ (-1) x.2.2.2)))) (lp (bodyOf Tryz.f71) 0) (J2 (.c (.int .i64 at_) :: .c (.ptr 0 0 0 0) :: .c (.ptr 1 0 0 0) :: J2 (.c (.int .i64 last) :: J16 (J8 (J2 (.junk :: .c (.ro tVal x.2.2.1) :: .c (.int .i64 (x.2.2.1.length : Int)) :: .c (.int .i64 ((i : Nat) : Int)) :: J32 (J8 (J4 (J2 (.junk :: [])))))))))) (gCc2 c x) :=
 Run.roundA oc6 rightX_lv 3000 Tryz.func71 mixed (rightX_l0_R c x at_ last i) (by kernel_rfl) (by
  unfold rightX_l0_R
  repeat' first
  | with_reducible refine g_iteD (fun h => ?_) (fun h => ?_)
  | with_reducible refine g_iteN (fun h => ?_) (fun h => ?_)
  | refine g_need (by first | (omega) | (rw [i64_iff]; omega)) ?_
  | (exact g_retl (by rw [dropCons (α := ESet) (Ty.dflt tSet) (by omega)]; simp only [setsF, *, if_true, if_false, Bool.false_and]))
  | refine g_call (value_fun c (x.2.2.1.getD i tVal.dflt).2 at_) (fun h => nomatch h) ?_
  | (refine g_stop (RunN.keep [0, 1] (F2 (true :: true :: true :: F2 (true :: F16 (F8 (F2 (false :: true :: true :: true :: F32 (F8 (F4 (F2 (false :: [])))))))))) n0 (by decide) rfl rfl ?_); have := rightX_l0 c x at_ (x.2.2.1.getD i tVal.dflt).1 (i + 1) hl hl2; rw [dropCons (α := ESet) (Ty.dflt tSet) (by omega)]; simp only [setsF, *, if_true, if_false]; exact this)
  | (refine g_stop (RunN.keep [0] (F2 (true :: true :: F2 (false :: true :: F32 (F16 (F8 (false :: true :: true :: true :: F16 (false :: []))))))) n0 (by decide) rfl rfl ?_); have := rightX_l1 c x at_ (-1) 0 hl2; rw [List.drop_eq_nil_of_le (by omega)]; simp only [setsF, Bool.true_and]; exact this)
  )
 termination_by x.2.2.1.length - i
 decreasing_by all_goals omega
theorem rightX_fun (c : EChk) (x : EExit) (at_ : Int) : AFun Tryz.prog 71 [.agg (tChk.enc c), .agg (tExit.enc x), .c (.int .i64 at_)] (.c (.bool (rightXF c x at_))) :=
 AFun.of oc6 rightX_lv 3000 Tryz.func71 mixed rfl (by decide) (Nat.le_of_ble_eq_true rfl) (rightX_T c x at_) (by kernel_rfl) fun hF => by
  have hx := hF.agg.2.agg.1
  unfold rightX_T
  repeat' first
  | with_reducible refine g_iteD (fun h => ?_) (fun h => ?_)
  | exact g_retl (by simp only [rightXF, *, if_true, if_false])
  | (refine g_stop (RunN.keep [0, 1] (F2 (true :: true :: true :: F2 (true :: F16 (F8 (F2 (false :: true :: true :: true :: F32 (F8 (F4 (F2 (false :: [])))))))))) n0 (by decide) rfl rfl ?_); have := rightX_l0 c x at_ (-1) 0 hx.2.2.1.1 hx.2.2.2.1; simp only [rightXF, *, if_true, if_false]; exact this)

end Go.Proofs.YtkonkblfckhcbaaGreatDoor
namespace Go.Proofs.YtkonkblfckhcbaaGreatDoor
set_option maxHeartbeats 4000000
set_option linter.unusedVariables false
set_option linter.unusedSimpArgs false
set_option maxRecDepth 100000
open Go.RowKit
theorem cons_one {σ : Sg} {w : World} {c : CV} {cs : List CV} {vs : List Value} (h : CCs σ w (c :: cs) vs) : ∃ v r, vs = v :: r ∧ CC σ w c v ∧ CCs σ w cs r := h.cons_of
theorem nil_one {σ : Sg} {w : World} {vs : List Value} (h : CCs σ w [] vs) : vs = [] := List.eq_nil_of_length_eq_zero h.1.symm
theorem vals_one {σ : Sg} {w : World} {a : AV} {l : List AV} {vs : List Value} (h : All2 (CA σ w) (a :: l) vs) : ∃ v r, vs = v :: r ∧ CA σ w a v ∧ All2 (CA σ w) l r := h.cons_of
theorem vals_nil {σ : Sg} {w : World} {vs : List Value} (h : All2 (CA σ w) [] vs) : vs = [] := List.eq_nil_of_length_eq_zero h.1.symm
theorem x_bits : Extern.findNext Tryz.f207 = none := by kernel_rfl
theorem x_bits2 : Extern.find Tryz.f207 = some Extern.MathFloatBits.float64frombits := by kernel_rfl
theorem run_frombits (n : Int) (w : World) : (callFunc 207 #[.int .u64 n]).run Tryz.prog w = .ok (.value (.float .f64 n.toNat)) w := by
 have h1 : (Tryz.f207).name ≠ "runtime.NumGoroutine" := by decide
 have h2 : (Tryz.f207).body = none := by rfl
 have h3 : Tryz.prog.funcs[(207 : Nat)]? = some Tryz.f207 := Tryz.func207
 have hx : Extern.MathFloatBits.float64frombits #[.int .u64 n] = pure (.float .f64 n.toNat) := rfl
 simp [callFunc, h3, h1, h2, mark, x_bits, x_bits2, hx]
 rfl
theorem frombits_fun (n : Int) : AFun Tryz.prog 207 [.c (.int .u64 n)] (.c (.flt n.toNat)) := fun R w vs hR hG hv => by
 right
 obtain ⟨x, r, rfl, ⟨hx, _⟩, hr⟩ := vals_one hv
 obtain rfl := vals_nil hr
 subst hx
 exact ⟨_, w, run_frombits n w, Below.refl _ _, rfl⟩
def rangeV (n a b : Int) : Bool := decide (a ≤ n) && decide (n ≤ b)
noncomputable def oc_owithin : Orc where
 pure := fun f args => match f, args with
  | _, _ => none
 heap := fun _ _ _ => none
def owithin_lv : LV := ⟨([]), []⟩
noncomputable def owithin_T (n : Int) (a : Int) (b : Int) : Tree :=
 .ite (decide (a ≤ n))
 (.ret (.c (.bool (decide (n ≤ b)))) [])
 (.ret (.c (.lit false)) [])
theorem owithin_fun (n : Int) (a : Int) (b : Int) : AFun Tryz.prog 175 [.c (.int .i64 n), .c (.int .i64 a), .c (.int .i64 b)] (.c (.bool (rangeV n a b))) :=
 AFun.of oc_owithin owithin_lv 3000 Tryz.func175 mixed rfl (by decide) (Nat.le_of_ble_eq_true rfl) (owithin_T n a b) (by kernel_rfl) fun hF => by
  unfold owithin_T
  refine g_iteD (fun h0 => ?_) (fun h0 => ?_)
  ·exact g_retb (by simp [rangeV, h0])
  ·exact g_retl (by simp [rangeV, h0])

def fltV (v : EVal) : Nat := (IntKind.u64.wrap v.2).toNat
noncomputable def oc_floatv : Orc where
 pure := fun f args => match f, args with
  | 207, [a0] => match dA (.int .u64) a0 with
   | some x0 => some (.c (.flt ((Int.toNat x0))))
   | _ => none
  | _, _ => none
 heap := fun _ _ _ => none
def floatv_lv : LV := ⟨([]), []⟩
noncomputable def floatv_T (v : EVal) : Tree :=
 .call 207 [.c (.int .u64 (IntKind.wrap .u64 v.2))] false (.c (.flt (Int.toNat (IntKind.wrap .u64 v.2)))) <|
 .ret (.c (.flt (Int.toNat (IntKind.wrap .u64 v.2)))) [.cells 48 (Ty.enc tVal v)]
theorem floatv_fun (v : EVal) : AFun Tryz.prog 176 [.agg (tVal.enc v)] (.c (.flt (fltV v))) :=
 AFun.of oc_floatv floatv_lv 3000 Tryz.func176 mixed rfl (by decide) (Nat.le_of_ble_eq_true rfl) (floatv_T v) (by kernel_rfl) fun hF => by
  unfold floatv_T
  refine g_call (frombits_fun (IntKind.wrap .u64 v.2)) (fun h => nomatch h) ?_
  exact g_rt rfl rfl (by rfl)

def rightVF (v : EVal) : Bool := if v.1 = 0 then decide (v.2 = 0) else if v.1 = 1 then rangeV v.2 0 1 else if v.1 = 2 then rangeV v.2 (-2147483648) 2147483647 else if v.1 = 3 then (fOrd (fltV v) (fltV v) == some Ordering.eq) || decide (v.2 = 9221120237041090561) else if v.1 = 4 then decide (0 ≤ v.2) else if v.1 = 5 then decide (0 ≤ v.2) else if v.1 = 6 then rangeV v.2 0 15 else false
noncomputable def oc_rightV : Orc where
 pure := fun f args => match f, args with
  | 176, [a0] => match dA tVal a0 with
   | some x0 => some (.c (.flt (fltV x0)))
   | _ => none
  | 175, [a0, a1, a2] => match dA tI a0, dA tI a1, dA tI a2 with
   | some x0, some x1, some x2 => some (.c (.bool (rangeV x0 x1 x2)))
   | _, _, _ => none
  | _, _ => none
 heap := fun _ _ _ => none
def rightV_lv : LV := ⟨([]), []⟩
noncomputable def rightV_T (v : EVal) : Tree :=
 .ite (decide (v.1 = 0))
 (.ret (.c (.bool (decide (v.2 = 0)))) [.cells 48 (Ty.enc tVal v)])
 (.ite (decide (v.1 = 1))
  (.call 175 [.c (.int .i64 v.2), .c (.int .i64 0), .c (.int .i64 1)] false (.c (.bool (rangeV v.2 0 1))) <|
  .ret (.c (.bool (rangeV v.2 0 1))) [.cells 48 (Ty.enc tVal v)])
  (.ite (decide (v.1 = 2))
  (.call 175 [.c (.int .i64 v.2), .c (.int .i64 (-2147483648)), .c (.int .i64 2147483647)] false (.c (.bool (rangeV v.2 (-2147483648) 2147483647))) <|
   .ret (.c (.bool (rangeV v.2 (-2147483648) 2147483647))) [.cells 48 (Ty.enc tVal v)])
  (.ite (decide (v.1 = 3))
   (.call 176 [.agg (Ty.enc tVal v)] false (.c (.flt (fltV v))) <|
   .call 176 [.agg (Ty.enc tVal v)] false (.c (.flt (fltV v))) <|
   .ite ((fOrd (fltV v) (fltV v) == some Ordering.eq))
   (.ret (.c (.lit true)) [.cells 48 (Ty.enc tVal v)])
   (.ret (.c (.bool (decide (v.2 = 9221120237041090561)))) [.cells 48 (Ty.enc tVal v)]))
   (.ite (decide (v.1 = 4))
   (.ite (decide (v.1 = 4))
    (.ret (.c (.bool (decide ((0 : Int) ≤ v.2)))) [.cells 48 (Ty.enc tVal v)])
    (.ite (decide (v.1 = 6))
    (.call 175 [.c (.int .i64 v.2), .c (.int .i64 0), .c (.int .i64 15)] false (.c (.bool (rangeV v.2 0 15))) <|
     .ret (.c (.bool (rangeV v.2 0 15))) [.cells 48 (Ty.enc tVal v)])
    (.ret (.c (.lit false)) [.cells 48 (Ty.enc tVal v)])))
   (.ite (decide (v.1 = 5))
    (.ret (.c (.bool (decide ((0 : Int) ≤ v.2)))) [.cells 48 (Ty.enc tVal v)])
    (.ite (decide (v.1 = 6))
    (.call 175 [.c (.int .i64 v.2), .c (.int .i64 0), .c (.int .i64 15)] false (.c (.bool (rangeV v.2 0 15))) <|
     .ret (.c (.bool (rangeV v.2 0 15))) [.cells 48 (Ty.enc tVal v)])
    (.ret (.c (.lit false)) [.cells 48 (Ty.enc tVal v)])))))))
theorem rightV_fun (v : EVal) : AFun Tryz.prog 130 [.agg (tVal.enc v)] (.c (.bool (rightVF v))) :=
 AFun.of oc_rightV rightV_lv 3000 Tryz.func130 mixed rfl (by decide) (Nat.le_of_ble_eq_true rfl) (rightV_T v) (by kernel_rfl) fun hF => by
  unfold rightV_T
  refine g_iteD (fun h0 => ?_) (fun h0 => ?_)
  ·exact g_retb (by simp [rightVF, h0])
  ·refine g_iteD (fun h1 => ?_) (fun h1 => ?_)
   ·refine g_call (owithin_fun v.2 0 1) (fun h => nomatch h) ?_
    exact g_retb (by simp [rightVF, h0, h1])
   ·refine g_iteD (fun h2 => ?_) (fun h2 => ?_)
    ·refine g_call (owithin_fun v.2 (-2147483648) 2147483647) (fun h => nomatch h) ?_
     exact g_retb (by simp [rightVF, h0, h1, h2])
    ·refine g_iteD (fun h3 => ?_) (fun h3 => ?_)
     ·refine g_call (floatv_fun v) (fun h => nomatch h) ?_
      refine g_call (floatv_fun v) (fun h => nomatch h) ?_
      refine g_ite (fun h4 => ?_) (fun h4 => ?_)
      ·exact g_retl (by simp [rightVF, h0, h1, h2, h3, h4])
      ·exact g_retb (by simp [rightVF, h0, h1, h2, h3, h4])
     ·refine g_iteD (fun h4 => ?_) (fun h4 => ?_)
      ·refine g_iteD (fun h5 => ?_) (fun h5 => ?_)
       ·exact g_retb (by simp [rightVF, h0, h1, h2, h3, h4, h5])
       ·refine g_iteD (fun h6 => ?_) (fun h6 => ?_)
        ·refine g_call (owithin_fun v.2 0 15) (fun h => nomatch h) ?_
         exact g_retb (by exfalso; omega)
        ·exact g_retl (by exfalso; omega)
      ·refine g_iteD (fun h5 => ?_) (fun h5 => ?_)
       ·exact g_retb (by simp [rightVF, h0, h1, h2, h3, h4, h5])
       ·refine g_iteD (fun h6 => ?_) (fun h6 => ?_)
        ·refine g_call (owithin_fun v.2 0 15) (fun h => nomatch h) ?_
         exact g_retb (by simp [rightVF, h0, h1, h2, h3, h4, h5, h6])
        ·exact g_retl (by simp [rightVF, h0, h1, h2, h3, h4, h5, h6])

end Go.Proofs.YtkonkblfckhcbaaGreatDoor
namespace Go.Proofs.YtkonkblfckhcbaaGreatDoor
set_option linter.unusedVariables false
set_option linter.unusedSimpArgs false
set_option maxRecDepth 100000
noncomputable def oc7 : Orc where
 pure := fun f args => match f, args with
  | 71, [a0, a1, a2] => match dA tChk a0, dA tExit a1, dA tI a2 with
   | some x0, some x1, some x2 => some (.c (.bool (rightXF x0 x1 x2)))
   | _, _, _ => none
  | 129, [a0, a1, a2] => match dA tChk a0, dA (.slice tI) a1, dA tI a2 with
   | some x0, some x1, some x2 => some (.c (.bool (valuesF x0 x1 x2)))
   | _, _, _ => none
  | 130, [a0] => match dA tVal a0 with
   | some x0 => some (.c (.bool (rightVF x0)))
   | _ => none
  | _, _ => none
 heap := fun _ _ _ => none
def shF (x : EIns) (k : Int) : Bool := if k = 1 then (if x.1 = 19 then true else if x.1 = 9 then decide (x.2.2.2.2.1 = 1) else false) else false
def okV (sh : Bool) (v : Int) : Bool := if sh = true then decide (0 ≤ v) else decide (v = -1)
def restF (x : EIns) (k : Int) : Bool := (decide (0 < k) || okV (shF x 0) x.2.1) && ((decide (1 < k) || okV (shF x 1) x.2.2.1) && (decide (2 < k) || okV (shF x 2) x.2.2.2.1))
theorem restF_ge {x : EIns} {k : Int} (h : 3 ≤ k) : restF x k = true := by
 have h0 : 0 < k := by omega
 have h1 : 1 < k := by omega
 have h2 : 2 < k := by omega
 simp [restF, h0, h1, h2]
theorem restF_step {x : EIns} {k : Int} (h : 0 ≤ k) (h' : k < 3) : restF x k = (okV (shF x k) ([x.2.1, x.2.2.1, x.2.2.2.1].getD k.toNat 0) && restF x (k + 1)) := by
 rcases (show k = 0 ∨ k = 1 ∨ k = 2 by omega) with rfl | rfl | rfl
 ·simp [restF]
 ·simp [restF]
 ·simp [restF]
def kOk (f : EForm) (x : EIns) : Bool := if f.2.2.2.1 = true then rightVF x.2.2.2.2.2.2 else (decide (x.2.2.2.2.2.2.1 = 0) && (decide (x.2.2.2.2.2.2.2 = 0) && true))
def exitOk (c : EChk) (f : EForm) (x : EIns) (at_ : Int) : Bool :=
 if f.2.2.2.2.2 = 0 then decide (x.2.2.2.2.2.1 = -1) else if f.2.2.2.2.2 = 1 then (if x.2.2.2.2.2.1 = -1 then true else if 0 ≤ x.2.2.2.2.2.1 then (if x.2.2.2.2.2.1 < (c.2.2.2.2.2.1.length : Int) then rightXF c (c.2.2.2.2.2.1.getD (Int.toNat x.2.2.2.2.2.1) tExit.dflt) at_ else false) else false)
 else if 0 ≤ x.2.2.2.2.2.1 then (if x.2.2.2.2.2.1 < (c.2.2.2.2.2.1.length : Int) then rightXF c (c.2.2.2.2.2.1.getD (Int.toNat x.2.2.2.2.2.1) tExit.dflt) at_ else false) else false
def refOk (x : EIns) : Bool := if x.1 = 2 then (if x.2.2.2.2.2.2.1 = 5 then false else true) else true
def tail2F (c : EChk) (f : EForm) (x : EIns) (at_ : Int) : Bool := if kOk f x = true then (if refOk x = true then exitOk c f x at_ else false) else false
def regOk (c : EChk) (x : EIns) : Bool := if x.1 = 1 then (if c.1.2.1 ≤ x.2.2.2.2.1 then false else true) else true
def tailF (c : EChk) (f : EForm) (x : EIns) (at_ : Int) : Bool :=
 if x.2.2.2.2.1 < f.2.1 then false else if f.2.2.1 < x.2.2.2.2.1 then false else if regOk c x = true then tail2F c f x at_ else false
def formedF (c : EChk) (f : EForm) (x : EIns) (at_ : Int) : Bool := valuesF c ([x.2.1, x.2.2.1, x.2.2.2.1].take f.1.toNat) at_ && (restF x f.1 && tailF c f x at_)
def formed_lv : LV := ⟨(F2 (false :: true :: true :: true :: true :: F2 (true :: true :: true :: F32 (F32 (F32 (F32 (F16 (F8 ([]))))))))), [8, 10, 12, 14]⟩
abbrev gCd0 (c : EChk) (f : EForm) (x : EIns) : List AB := [.cells 147 (Ty.enc tChk c), .cells 149 (Ty.enc tForm f), .cells 97 (Ty.enc tIns x), .vec 175 tI ([x.2.1, x.2.2.1, x.2.2.2.1])]
noncomputable def formed_T (c : EChk) (f : EForm) (x : EIns) (at_ : Int) : Tree :=
 .need (([0, 0, 0]).length = 3) <|
 .need ((0 : Int) ≤ f.1 ∧ (f.1 : Int) ≤ ((3 : Nat) : Int) ∧ 3 ≤ ([x.2.1, x.2.2.1, x.2.2.2.1]).length) <|
 .need ((Int.toNat f.1) ≤ ([x.2.1, x.2.2.1, x.2.2.2.1]).length) <|
 .call 129 [.agg (Ty.enc tChk c), .c (.ro tI (([x.2.1, x.2.2.1, x.2.2.2.1]).take (Int.toNat f.1))), .c (.int .i64 at_)] true (.c (.bool (valuesF c (([x.2.1, x.2.2.1, x.2.2.2.1]).take (Int.toNat f.1)) at_))) <|
 .ite ((!(valuesF c (([x.2.1, x.2.2.1, x.2.2.2.1]).take (Int.toNat f.1)) at_)))
 (.ret (.c (.lit false)) (gCd0 c f x))
 (.stop (lp (bodyOf Tryz.f69) 0) (J2 (.junk :: .c (.int .i64 at_) :: .c (.ptr 0 0 0 0) :: .c (.ptr 1 0 0 0) :: .c (.ptr 2 0 0 0) :: J2 (.c (.ptr 3 0 0 0) :: .c (.int .i64 f.1) :: J32 (J32 (J32 (J32 (J16 (J8 (.junk :: []))))))))) (gCd0 c f x))
abbrev gCd1 (c : EChk) (f : EForm) (x : EIns) : List AB := [.cells 147 (Ty.enc tChk c), .cells 149 (Ty.enc tForm f), .cells 97 (Ty.enc tIns x)]
noncomputable def formed_r14_R (c : EChk) (f : EForm) (x : EIns) (at_ : Int) : Tree :=
 .ite (decide (f.2.2.2.2.2 = 0))
 (.ret (.c (.bool (decide (x.2.2.2.2.2.1 = (-1))))) (gCd1 c f x))
 (.ite (decide (f.2.2.2.2.2 = 1))
  (.ite (decide (x.2.2.2.2.2.1 = (-1)))
  (.ret (.c (.bool (decide (x.2.2.2.2.2.1 = (-1))))) (gCd1 c f x))
  (.ite (decide ((0 : Int) ≤ x.2.2.2.2.2.1))
   (.ite (decide (x.2.2.2.2.2.1 < (c.2.2.2.2.2.1.length : Int)))
   (.need ((0 : Int) ≤ x.2.2.2.2.2.1 ∧ (x.2.2.2.2.2.1 : Int) < (c.2.2.2.2.2.1.length : Int)) <|
    .need ((Int.toNat x.2.2.2.2.2.1) < c.2.2.2.2.2.1.length) <|
    .call 71 [.agg (Ty.enc tChk c), .agg (Ty.enc tExit (c.2.2.2.2.2.1.getD (Int.toNat x.2.2.2.2.2.1) tExit.dflt)), .c (.int .i64 at_)] false (.c (.bool (rightXF c (c.2.2.2.2.2.1.getD (Int.toNat x.2.2.2.2.2.1) tExit.dflt) at_))) <|
    .ret (.c (.bool (rightXF c (c.2.2.2.2.2.1.getD (Int.toNat x.2.2.2.2.2.1) tExit.dflt) at_))) (gCd1 c f x))
   (.ret (.c (.lit false)) (gCd1 c f x)))
   (.ret (.c (.lit false)) (gCd1 c f x))))
  (.ite (decide ((0 : Int) ≤ x.2.2.2.2.2.1))
  (.ite (decide (x.2.2.2.2.2.1 < (c.2.2.2.2.2.1.length : Int)))
   (.need ((0 : Int) ≤ x.2.2.2.2.2.1 ∧ (x.2.2.2.2.2.1 : Int) < (c.2.2.2.2.2.1.length : Int)) <|
   .need ((Int.toNat x.2.2.2.2.2.1) < c.2.2.2.2.2.1.length) <|
   .call 71 [.agg (Ty.enc tChk c), .agg (Ty.enc tExit (c.2.2.2.2.2.1.getD (Int.toNat x.2.2.2.2.2.1) tExit.dflt)), .c (.int .i64 at_)] false (.c (.bool (rightXF c (c.2.2.2.2.2.1.getD (Int.toNat x.2.2.2.2.2.1) tExit.dflt) at_))) <|
   .ret (.c (.bool (rightXF c (c.2.2.2.2.2.1.getD (Int.toNat x.2.2.2.2.2.1) tExit.dflt) at_))) (gCd1 c f x))
   (.ret (.c (.lit false)) (gCd1 c f x)))
  (.ret (.c (.lit false)) (gCd1 c f x))))
abbrev bCd2 (at_ : Int) : List AV := (J2 (.junk :: .c (.int .i64 at_) :: .c (.ptr 0 0 0 0) :: .c (.ptr 1 0 0 0) :: .c (.ptr 2 0 0 0) :: J32 (J32 (J32 (J32 (J16 (J8 (J4 (.junk :: [])))))))))
noncomputable def formed_r12_R (c : EChk) (f : EForm) (x : EIns) (at_ : Int) : Tree :=
 .ite ((!f.2.2.2.1))
 (.ite ((!(decide (x.2.2.2.2.2.2.1 = 0) && (decide (x.2.2.2.2.2.2.2 = 0) && true))))
  (.ret (.c (.lit false)) (gCd1 c f x))
  (.ite (f.2.2.2.1)
  (.call 130 [.agg (Ty.enc tVal x.2.2.2.2.2.2)] false (.c (.bool (rightVF x.2.2.2.2.2.2))) <|
   .ite ((!(rightVF x.2.2.2.2.2.2)))
   (.ret (.c (.lit false)) (gCd1 c f x))
   (.ite (decide (x.1 = 2))
   (.ite (decide (x.2.2.2.2.2.2.1 = 5))
    (.ret (.c (.lit false)) (gCd1 c f x))
    (.stop (rg (bodyOf Tryz.f69) 14) (bCd2 at_) (gCd1 c f x)))
   (.stop (rg (bodyOf Tryz.f69) 14) (bCd2 at_) (gCd1 c f x))))
  (.ite (decide (x.1 = 2))
   (.ite (decide (x.2.2.2.2.2.2.1 = 5))
   (.ret (.c (.lit false)) (gCd1 c f x))
   (.stop (rg (bodyOf Tryz.f69) 14) (bCd2 at_) (gCd1 c f x)))
   (.stop (rg (bodyOf Tryz.f69) 14) (bCd2 at_) (gCd1 c f x)))))
 (.ite (f.2.2.2.1)
  (.call 130 [.agg (Ty.enc tVal x.2.2.2.2.2.2)] false (.c (.bool (rightVF x.2.2.2.2.2.2))) <|
  .ite ((!(rightVF x.2.2.2.2.2.2)))
  (.ret (.c (.lit false)) (gCd1 c f x))
  (.ite (decide (x.1 = 2))
   (.ite (decide (x.2.2.2.2.2.2.1 = 5))
   (.ret (.c (.lit false)) (gCd1 c f x))
   (.stop (rg (bodyOf Tryz.f69) 14) (bCd2 at_) (gCd1 c f x)))
   (.stop (rg (bodyOf Tryz.f69) 14) (bCd2 at_) (gCd1 c f x))))
  (.ite (decide (x.1 = 2))
  (.ite (decide (x.2.2.2.2.2.2.1 = 5))
   (.ret (.c (.lit false)) (gCd1 c f x))
   (.stop (rg (bodyOf Tryz.f69) 14) (bCd2 at_) (gCd1 c f x)))
  (.stop (rg (bodyOf Tryz.f69) 14) (bCd2 at_) (gCd1 c f x))))
noncomputable def formed_r10_R (c : EChk) (f : EForm) (x : EIns) (at_ : Int) : Tree :=
 .ite (decide (x.2.2.2.2.1 < f.2.1))
 (.ret (.c (.lit false)) (gCd1 c f x))
 (.ite (decide (f.2.2.1 < x.2.2.2.2.1))
  (.ret (.c (.lit false)) (gCd1 c f x))
  (.ite (decide (x.1 = 1))
  (.ite (decide (c.1.2.1 ≤ x.2.2.2.2.1))
   (.ret (.c (.lit false)) (gCd1 c f x))
   (.stop (rg (bodyOf Tryz.f69) 12) (bCd2 at_) (gCd1 c f x)))
  (.stop (rg (bodyOf Tryz.f69) 12) (bCd2 at_) (gCd1 c f x))))
abbrev bCd0 (at_ : Int) (k : Int) (sh : Bool) : List AV := (J2 (.junk :: .c (.int .i64 at_) :: .c (.ptr 0 0 0 0) :: .c (.ptr 1 0 0 0) :: .c (.ptr 2 0 0 0) :: J2 (.c (.ptr 3 0 0 0) :: .c (.int .i64 (k + 1)) :: .c (.bool sh) :: J32 (J32 (J32 (J32 (J16 (J8 ([])))))))))
noncomputable def formed_r8_R (c : EChk) (f : EForm) (x : EIns) (at_ : Int) (k : Int) (sh : Bool) : Tree :=
 .ite (sh)
 (.need ((0 : Int) ≤ k ∧ (k : Int) < ((3 : Nat) : Int)) <|
  .need ((Int.toNat k) < ([x.2.1, x.2.2.1, x.2.2.2.1]).length) <|
  .ite (decide ((([x.2.1, x.2.2.1, x.2.2.2.1]).getD (Int.toNat k) tI.dflt) < 0))
  (.ret (.c (.lit false)) (gCd0 c f x))
  (.ite ((!sh))
  (.need ((0 : Int) ≤ k ∧ (k : Int) < ((3 : Nat) : Int)) <|
   .need ((Int.toNat k) < ([x.2.1, x.2.2.1, x.2.2.2.1]).length) <|
   .ite ((!(decide ((([x.2.1, x.2.2.1, x.2.2.2.1]).getD (Int.toNat k) tI.dflt) = (-1)))))
   (.ret (.c (.lit false)) (gCd0 c f x))
   (.need (inR .i64 (k + 1)) <|
   .stop (lp (bodyOf Tryz.f69) 0) (bCd0 at_ k sh) (gCd0 c f x)))
  (.need (inR .i64 (k + 1)) <|
   .stop (lp (bodyOf Tryz.f69) 0) (bCd0 at_ k sh) (gCd0 c f x))))
 (.ite ((!sh))
  (.need ((0 : Int) ≤ k ∧ (k : Int) < ((3 : Nat) : Int)) <|
  .need ((Int.toNat k) < ([x.2.1, x.2.2.1, x.2.2.2.1]).length) <|
  .ite ((!(decide ((([x.2.1, x.2.2.1, x.2.2.2.1]).getD (Int.toNat k) tI.dflt) = (-1)))))
  (.ret (.c (.lit false)) (gCd0 c f x))
  (.need (inR .i64 (k + 1)) <|
   .stop (lp (bodyOf Tryz.f69) 0) (bCd0 at_ k sh) (gCd0 c f x)))
  (.need (inR .i64 (k + 1)) <|
  .stop (lp (bodyOf Tryz.f69) 0) (bCd0 at_ k sh) (gCd0 c f x)))
abbrev bCd1 (at_ : Int) (k : Int) : List AV := (J2 (.junk :: .c (.int .i64 at_) :: .c (.ptr 0 0 0 0) :: .c (.ptr 1 0 0 0) :: .c (.ptr 2 0 0 0) :: J2 (.c (.ptr 3 0 0 0) :: .c (.int .i64 k) :: J32 (J32 (J32 (J32 (J16 (J8 (.junk :: [])))))))))
noncomputable def formed_l0_R (c : EChk) (f : EForm) (x : EIns) (at_ : Int) (k : Int) : Tree :=
 .ite (decide (k < 3))
 (.ite (decide (k = 1))
  (.ite (decide (x.1 = 19))
  (.stop (rg (bodyOf Tryz.f69) 8) (J2 (.junk :: .c (.int .i64 at_) :: .c (.ptr 0 0 0 0) :: .c (.ptr 1 0 0 0) :: .c (.ptr 2 0 0 0) :: J2 (.c (.ptr 3 0 0 0) :: .c (.int .i64 k) :: .c (.lit true) :: J32 (J32 (J32 (J32 (J16 (J8 ([]))))))))) (gCd0 c f x))
  (.ite (decide (x.1 = 9))
   (.stop (rg (bodyOf Tryz.f69) 8) (J2 (.junk :: .c (.int .i64 at_) :: .c (.ptr 0 0 0 0) :: .c (.ptr 1 0 0 0) :: .c (.ptr 2 0 0 0) :: J2 (.c (.ptr 3 0 0 0) :: .c (.int .i64 k) :: .c (.bool (decide (x.2.2.2.2.1 = 1))) :: J32 (J32 (J32 (J32 (J16 (J8 ([]))))))))) (gCd0 c f x))
   (.stop (rg (bodyOf Tryz.f69) 8) (J2 (.junk :: .c (.int .i64 at_) :: .c (.ptr 0 0 0 0) :: .c (.ptr 1 0 0 0) :: .c (.ptr 2 0 0 0) :: J2 (.c (.ptr 3 0 0 0) :: .c (.int .i64 k) :: .c (.lit false) :: J32 (J32 (J32 (J32 (J16 (J8 ([]))))))))) (gCd0 c f x))))
  (.stop (rg (bodyOf Tryz.f69) 8) (J2 (.junk :: .c (.int .i64 at_) :: .c (.ptr 0 0 0 0) :: .c (.ptr 1 0 0 0) :: .c (.ptr 2 0 0 0) :: J2 (.c (.ptr 3 0 0 0) :: .c (.int .i64 k) :: .c (.lit false) :: J32 (J32 (J32 (J32 (J16 (J8 ([]))))))))) (gCd0 c f x)))
 (.stop (rg (bodyOf Tryz.f69) 10) (bCd1 at_ k) (gCd0 c f x))
theorem formed_r14 (c : EChk) (f : EForm) (x : EIns) (at_ : Int)  : Run Tryz.prog 69 (retQ Tryz.prog (.c (.bool (exitOk c f x at_)))) (rg (bodyOf Tryz.f69) 14) (bCd2 at_) (gCd1 c f x) :=
 Run.roundA oc7 formed_lv 3000 Tryz.func69 mixed (formed_r14_R c f x at_) (by kernel_rfl) (by
  unfold formed_r14_R
  repeat' first
  | with_reducible refine g_iteD (fun h => ?_) (fun h => ?_)
  | refine g_need (by omega) ?_
  | exact g_retb (by simp only [exitOk, *, if_true, if_false, Bool.false_eq_true, reduceCtorEq, Int.reduceEq, Int.reduceNeg, decide_true, Bool.not_true, Bool.not_false])
  | refine g_call (rightX_fun c (c.2.2.2.2.2.1.getD (Int.toNat x.2.2.2.2.2.1) tExit.dflt) at_) (fun h => nomatch h) ?_
  | exact g_retl (by simp only [exitOk, *, if_true, if_false, Bool.false_eq_true, reduceCtorEq, Int.reduceEq, Int.reduceNeg, decide_true, Bool.not_true, Bool.not_false])
  )
theorem formed_r12 (c : EChk) (f : EForm) (x : EIns) (at_ : Int)  : Run Tryz.prog 69 (retQ Tryz.prog (.c (.bool (tail2F c f x at_)))) (rg (bodyOf Tryz.f69) 12) (bCd2 at_) (gCd1 c f x) :=
 Run.roundA oc7 formed_lv 3000 Tryz.func69 mixed (formed_r12_R c f x at_) (by kernel_rfl) (by
  unfold formed_r12_R
  refine g_iteN (fun h0 => ?_) (fun h0 => ?_)
  ·refine g_iteN (fun h1 => ?_) (fun h1 => ?_)
   ·exact g_retl (by simp only [tail2F, kOk, refOk, h0, h1, if_true, if_false, Bool.false_eq_true, reduceCtorEq, Int.reduceEq, Int.reduceNeg, decide_true, Bool.not_true, Bool.not_false])
   ·refine g_ite (fun h2 => ?_) (fun h2 => ?_)
    ·refine g_call (rightV_fun x.2.2.2.2.2.2) (fun h => nomatch h) ?_
     refine g_iteN (fun h3 => ?_) (fun h3 => ?_)
     ·exact g_retl (by simp_all [tail2F, kOk, refOk])
     ·refine g_iteD (fun h4 => ?_) (fun h4 => ?_)
      ·refine g_iteD (fun h5 => ?_) (fun h5 => ?_)
       ·exact g_retl (by simp_all [tail2F, kOk, refOk])
       ·refine g_stop (RunN.keep [0, 1, 2] (F2 (false :: true :: true :: true :: true :: F32 (F32 (F32 (F32 (F16 (F8 (F4 (false :: []))))))))) n0 (by decide) rfl rfl ?_)
        have ht := formed_r14 c f x at_; first | (simp only [tail2F, kOk, refOk, h0, h1, h2, h3, h4, h5, if_true, if_false, Bool.false_eq_true, reduceCtorEq, Int.reduceEq, Int.reduceNeg, decide_true, Bool.not_true, Bool.not_false]; exact ht) | (exfalso; simp_all; done)
      ·refine g_stop (RunN.keep [0, 1, 2] (F2 (false :: true :: true :: true :: true :: F32 (F32 (F32 (F32 (F16 (F8 (F4 (false :: []))))))))) n0 (by decide) rfl rfl ?_)
       have ht := formed_r14 c f x at_; first | (simp only [tail2F, kOk, refOk, h0, h1, h2, h3, h4, if_true, if_false, Bool.false_eq_true, reduceCtorEq, Int.reduceEq, Int.reduceNeg, decide_true, Bool.not_true, Bool.not_false]; exact ht) | (exfalso; simp_all; done)
    ·refine g_iteD (fun h3 => ?_) (fun h3 => ?_)
     ·refine g_iteD (fun h4 => ?_) (fun h4 => ?_)
      ·exact g_retl (by simp_all [tail2F, kOk, refOk])
      ·refine g_stop (RunN.keep [0, 1, 2] (F2 (false :: true :: true :: true :: true :: F32 (F32 (F32 (F32 (F16 (F8 (F4 (false :: []))))))))) n0 (by decide) rfl rfl ?_)
       have ht := formed_r14 c f x at_; first | (simp only [tail2F, kOk, refOk, h0, h1, h2, h3, h4, if_true, if_false, Bool.false_eq_true, reduceCtorEq, Int.reduceEq, Int.reduceNeg, decide_true, Bool.not_true, Bool.not_false]; exact ht) | (exfalso; simp_all; done)
     ·refine g_stop (RunN.keep [0, 1, 2] (F2 (false :: true :: true :: true :: true :: F32 (F32 (F32 (F32 (F16 (F8 (F4 (false :: []))))))))) n0 (by decide) rfl rfl ?_)
      have ht := formed_r14 c f x at_; first | (simp only [tail2F, kOk, refOk, h0, h1, h2, h3, if_true, if_false, Bool.false_eq_true, reduceCtorEq, Int.reduceEq, Int.reduceNeg, decide_true, Bool.not_true, Bool.not_false]; exact ht) | (exfalso; simp_all; done)
  ·refine g_ite (fun h1 => ?_) (fun h1 => ?_)
   ·refine g_call (rightV_fun x.2.2.2.2.2.2) (fun h => nomatch h) ?_
    refine g_iteN (fun h2 => ?_) (fun h2 => ?_)
    ·exact g_retl (by simp only [tail2F, kOk, refOk, h0, h1, h2, if_true, if_false, Bool.false_eq_true, reduceCtorEq, Int.reduceEq, Int.reduceNeg, decide_true, Bool.not_true, Bool.not_false])
    ·refine g_iteD (fun h3 => ?_) (fun h3 => ?_)
     ·refine g_iteD (fun h4 => ?_) (fun h4 => ?_)
      ·exact g_retl (by simp only [tail2F, kOk, refOk, h0, h1, h2, h3, h4, if_true, if_false, Bool.false_eq_true, reduceCtorEq, Int.reduceEq, Int.reduceNeg, decide_true, Bool.not_true, Bool.not_false])
      ·refine g_stop (RunN.keep [0, 1, 2] (F2 (false :: true :: true :: true :: true :: F32 (F32 (F32 (F32 (F16 (F8 (F4 (false :: []))))))))) n0 (by decide) rfl rfl ?_)
       have ht := formed_r14 c f x at_; first | (simp only [tail2F, kOk, refOk, h0, h1, h2, h3, h4, if_true, if_false, Bool.false_eq_true, reduceCtorEq, Int.reduceEq, Int.reduceNeg, decide_true, Bool.not_true, Bool.not_false]; exact ht) | (exfalso; simp_all; done)
     ·refine g_stop (RunN.keep [0, 1, 2] (F2 (false :: true :: true :: true :: true :: F32 (F32 (F32 (F32 (F16 (F8 (F4 (false :: []))))))))) n0 (by decide) rfl rfl ?_)
      have ht := formed_r14 c f x at_; first | (simp only [tail2F, kOk, refOk, h0, h1, h2, h3, if_true, if_false, Bool.false_eq_true, reduceCtorEq, Int.reduceEq, Int.reduceNeg, decide_true, Bool.not_true, Bool.not_false]; exact ht) | (exfalso; simp_all; done)
   ·refine g_iteD (fun h2 => ?_) (fun h2 => ?_)
    ·refine g_iteD (fun h3 => ?_) (fun h3 => ?_)
     ·exact g_retl (by simp_all [tail2F, kOk, refOk])
     ·refine g_stop (RunN.keep [0, 1, 2] (F2 (false :: true :: true :: true :: true :: F32 (F32 (F32 (F32 (F16 (F8 (F4 (false :: []))))))))) n0 (by decide) rfl rfl ?_)
      have ht := formed_r14 c f x at_; first | (simp only [tail2F, kOk, refOk, h0, h1, h2, h3, if_true, if_false, Bool.false_eq_true, reduceCtorEq, Int.reduceEq, Int.reduceNeg, decide_true, Bool.not_true, Bool.not_false]; exact ht) | (exfalso; simp_all; done)
    ·refine g_stop (RunN.keep [0, 1, 2] (F2 (false :: true :: true :: true :: true :: F32 (F32 (F32 (F32 (F16 (F8 (F4 (false :: []))))))))) n0 (by decide) rfl rfl ?_)
     have ht := formed_r14 c f x at_; first | (simp only [tail2F, kOk, refOk, h0, h1, h2, if_true, if_false, Bool.false_eq_true, reduceCtorEq, Int.reduceEq, Int.reduceNeg, decide_true, Bool.not_true, Bool.not_false]; exact ht) | (exfalso; simp_all; done)
  )
theorem formed_r10 (c : EChk) (f : EForm) (x : EIns) (at_ : Int)  : Run Tryz.prog 69 (retQ Tryz.prog (.c (.bool (tailF c f x at_)))) (rg (bodyOf Tryz.f69) 10) (bCd2 at_) (gCd1 c f x) :=
 Run.roundA oc7 formed_lv 3000 Tryz.func69 mixed (formed_r10_R c f x at_) (by kernel_rfl) (by
  unfold formed_r10_R
  repeat' first
  | with_reducible refine g_iteD (fun h => ?_) (fun h => ?_)
  | exact g_retl (by simp only [tailF, regOk, *, if_true, if_false, Bool.false_eq_true, reduceCtorEq, Int.reduceEq, Int.reduceNeg, decide_true, Bool.not_true, Bool.not_false])
  | (refine g_stop (RunN.keep [0, 1, 2] (F2 (false :: true :: true :: true :: true :: F32 (F32 (F32 (F32 (F16 (F8 (F4 (false :: []))))))))) n0 (by decide) rfl rfl ?_); have ht := formed_r12 c f x at_; first | (simp only [tailF, regOk, *, if_true, if_false, Bool.false_eq_true, reduceCtorEq, Int.reduceEq, Int.reduceNeg, decide_true, Bool.not_true, Bool.not_false]; exact ht) | (exfalso; simp_all; done))
  )
theorem formed_r8 (c : EChk) (f : EForm) (x : EIns) (at_ : Int) (k : Int) (sh : Bool) (hk : 0 ≤ k ∧ k < 3) (hn : Run Tryz.prog 69 (retQ Tryz.prog (.c (.bool (restF x (k + 1) && tailF c f x at_)))) (lp (bodyOf Tryz.f69) 0) (J2 (.junk :: .c (.int .i64 at_) :: .c (.ptr 0 0 0 0) :: .c (.ptr 1 0 0 0) :: .c (.ptr 2 0 0 0) :: J2 (.c (.ptr 3 0 0 0) :: .c (.int .i64 (k + 1)) :: J32 (J32 (J32 (J32 (J16 (J8 (.junk :: []))))))))) (gCd0 c f x)) : Run Tryz.prog 69 (retQ Tryz.prog (.c (.bool (okV sh ([x.2.1, x.2.2.1, x.2.2.2.1].getD k.toNat tI.dflt) && (restF x (k + 1) && tailF c f x at_))))) (rg (bodyOf Tryz.f69) 8) (J2 (.junk :: .c (.int .i64 at_) :: .c (.ptr 0 0 0 0) :: .c (.ptr 1 0 0 0) :: .c (.ptr 2 0 0 0) :: J2 (.c (.ptr 3 0 0 0) :: .c (.int .i64 k) :: .c (.bool sh) :: J32 (J32 (J32 (J32 (J16 (J8 ([]))))))))) (gCd0 c f x) :=
 Run.roundA oc7 formed_lv 3000 Tryz.func69 mixed (formed_r8_R c f x at_ k sh) (by kernel_rfl) (by
  unfold formed_r8_R
  refine g_ite (fun h0 => ?_) (fun h0 => ?_)
  ·refine g_need (by omega) ?_
   refine g_need (by simp; omega) ?_
   refine g_iteD (fun h1 => ?_) (fun h1 => ?_)
   ·exact g_retl (by have q := hk; simp_all [okV]; omega)
   ·refine g_iteN (fun h2 => ?_) (fun h2 => ?_)
    ·refine g_need (by omega) ?_
     refine g_need (by simp; omega) ?_
     refine g_iteND (fun h3 => ?_) (fun h3 => ?_)
     ·exact g_retl (by exfalso; simp_all)
     ·refine g_need (by omega) ?_
      refine g_stop (RunN.keep [0, 1, 2, 3] (F2 (false :: true :: true :: true :: true :: F2 (true :: true :: F32 (F32 (F32 (F32 (F16 (F8 (false :: []))))))))) n0 (by decide) rfl rfl ?_)
      first | (exfalso; simp_all; done) | (simp only [okV, h0, h1, h2, h3, if_true, if_false, Bool.false_eq_true, decide_true, Bool.true_and]; exact hn) | (have e : okV sh ([x.2.1, x.2.2.1, x.2.2.2.1].getD k.toNat tI.dflt) = true := (by simp only [okV, h0, h1, h2, h3, if_true, if_false, Bool.false_eq_true]; exact decide_eq_true (by omega)); simp only [h0, h1, h2, h3] at e; simp only [h0, h1, h2, h3, e, Bool.true_and]; exact hn)
    ·refine g_need (by rw [i64_iff]; omega) ?_
     refine g_stop (RunN.keep [0, 1, 2, 3] (F2 (false :: true :: true :: true :: true :: F2 (true :: true :: F32 (F32 (F32 (F32 (F16 (F8 (false :: []))))))))) n0 (by decide) rfl rfl ?_)
     first | (exfalso; simp_all; done) | (simp only [okV, h0, h1, h2, if_true, if_false, Bool.false_eq_true, decide_true, Bool.true_and]; exact hn) | (have e : okV sh ([x.2.1, x.2.2.1, x.2.2.2.1].getD k.toNat tI.dflt) = true := (by simp only [okV, h0, h1, h2, if_true, if_false, Bool.false_eq_true]; exact decide_eq_true (by omega)); simp only [h0, h1, h2] at e; simp only [h0, h1, h2, e, Bool.true_and]; exact hn)
  ·refine g_iteN (fun h1 => ?_) (fun h1 => ?_)
   ·refine g_need (by omega) ?_
    refine g_need (by simp; omega) ?_
    refine g_iteND (fun h2 => ?_) (fun h2 => ?_)
    ·exact g_retl (by simp only [okV, h0, h1, h2, if_true, if_false, Bool.false_eq_true, decide_false, Bool.false_and])
    ·refine g_need (by rw [i64_iff]; omega) ?_
     refine g_stop (RunN.keep [0, 1, 2, 3] (F2 (false :: true :: true :: true :: true :: F2 (true :: true :: F32 (F32 (F32 (F32 (F16 (F8 (false :: []))))))))) n0 (by decide) rfl rfl ?_)
     first | (exfalso; simp_all; done) | (simp only [okV, h0, h1, h2, if_true, if_false, Bool.false_eq_true, decide_true, Bool.true_and]; exact hn) | (have e : okV sh ([x.2.1, x.2.2.1, x.2.2.2.1].getD k.toNat tI.dflt) = true := (by simp only [okV, h0, h1, h2, if_true, if_false, Bool.false_eq_true]; exact decide_eq_true (by omega)); simp only [h0, h1, h2] at e; simp only [h0, h1, h2, e, Bool.true_and]; exact hn)
   ·refine g_need (by rw [i64_iff]; omega) ?_
    refine g_stop (RunN.keep [0, 1, 2, 3] (F2 (false :: true :: true :: true :: true :: F2 (true :: true :: F32 (F32 (F32 (F32 (F16 (F8 (false :: []))))))))) n0 (by decide) rfl rfl ?_)
    first | (exfalso; simp_all; done) | (simp only [okV, h0, h1, if_true, if_false, Bool.false_eq_true, decide_true, Bool.true_and]; exact hn) | (have e : okV sh ([x.2.1, x.2.2.1, x.2.2.2.1].getD k.toNat tI.dflt) = true := (by simp only [okV, h0, h1, if_true, if_false, Bool.false_eq_true]; exact decide_eq_true (by omega)); simp only [h0, h1] at e; simp only [h0, h1, e, Bool.true_and]; exact hn)
  )
theorem formed_l0 (c : EChk) (f : EForm) (x : EIns) (at_ : Int) (k : Int) (hk : 0 ≤ k) : Run Tryz.prog 69 (retQ Tryz.prog (.c (.bool (restF x k && tailF c f x at_)))) (lp (bodyOf Tryz.f69) 0) (bCd1 at_ k) (gCd0 c f x) :=
 Run.roundA oc7 formed_lv 3000 Tryz.func69 mixed (formed_l0_R c f x at_ k) (by kernel_rfl) (by
  unfold formed_l0_R
  refine g_iteD (fun h0 => ?_) (fun h0 => ?_)
  ·refine g_iteD (fun h1 => ?_) (fun h1 => ?_)
   ·refine g_iteD (fun h2 => ?_) (fun h2 => ?_)
    ·refine g_stop (RunN.keepU [0, 1, 2, 3] (F2 (false :: true :: true :: true :: true :: F2 (true :: true :: true :: F32 (F32 (F32 (F32 (F16 (F8 ([]))))))))) (F8 (F2 (false :: true :: []))) ([]) n0 (by decide) rfl rfl ?_)
     have ht := formed_r8 c f x at_ k true (by omega) (formed_l0 c f x at_ (k + 1) (by omega)); have e : shF x k = true := (by simp only [shF, h0, h1, h2, if_true, if_false, reduceCtorEq, Int.reduceEq]); rw [restF_step (by omega) (by omega), e, Bool.and_assoc]; exact ht
    ·refine g_iteD (fun h3 => ?_) (fun h3 => ?_)
     ·refine g_stop (RunN.keepU [0, 1, 2, 3] (F2 (false :: true :: true :: true :: true :: F2 (true :: true :: true :: F32 (F32 (F32 (F32 (F16 (F8 ([]))))))))) (F8 (F2 (false :: true :: []))) ([]) n0 (by decide) rfl rfl ?_)
      have ht := formed_r8 c f x at_ k (decide (x.2.2.2.2.1 = 1)) (by omega) (formed_l0 c f x at_ (k + 1) (by omega)); have e : shF x k = (decide (x.2.2.2.2.1 = 1)) := (by simp only [shF, h0, h1, h2, h3, if_true, if_false, reduceCtorEq, Int.reduceEq]); rw [restF_step (by omega) (by omega), e, Bool.and_assoc]; exact ht
     ·refine g_stop (RunN.keepU [0, 1, 2, 3] (F2 (false :: true :: true :: true :: true :: F2 (true :: true :: true :: F32 (F32 (F32 (F32 (F16 (F8 ([]))))))))) (F8 (F2 (false :: true :: []))) ([]) n0 (by decide) rfl rfl ?_)
      have ht := formed_r8 c f x at_ k false (by omega) (formed_l0 c f x at_ (k + 1) (by omega)); have e : shF x k = false := (by simp only [shF, h0, h1, h2, h3, if_true, if_false, reduceCtorEq, Int.reduceEq]); rw [restF_step (by omega) (by omega), e, Bool.and_assoc]; exact ht
   ·refine g_stop (RunN.keepU [0, 1, 2, 3] (F2 (false :: true :: true :: true :: true :: F2 (true :: true :: true :: F32 (F32 (F32 (F32 (F16 (F8 ([]))))))))) (F8 (F2 (false :: true :: []))) ([]) n0 (by decide) rfl rfl ?_)
    have ht := formed_r8 c f x at_ k false (by omega) (formed_l0 c f x at_ (k + 1) (by omega)); have e : shF x k = false := (by simp only [shF, h0, h1, if_true, if_false, reduceCtorEq, Int.reduceEq]); rw [restF_step (by omega) (by omega), e, Bool.and_assoc]; exact ht
  ·refine g_stop (RunN.keep [0, 1, 2] (F2 (false :: true :: true :: true :: true :: F32 (F32 (F32 (F32 (F16 (F8 (F4 (false :: []))))))))) n0 (by decide) rfl rfl ?_)
   have ht := formed_r10 c f x at_; rw [restF_ge (by omega), Bool.true_and]; exact ht
  )
 termination_by (3 - k).toNat
 decreasing_by all_goals omega
theorem formed_fun (c : EChk) (f : EForm) (x : EIns) (at_ : Int) (hf : 0 ≤ f.1 ∧ f.1 ≤ 3) : AFun Tryz.prog 69 [.agg (tChk.enc c), .agg (tForm.enc f), .agg (tIns.enc x), .c (.int .i64 at_)] (.c (.bool (formedF c f x at_))) :=
 AFun.of oc7 formed_lv 3000 Tryz.func69 mixed rfl (by decide) (Nat.le_of_ble_eq_true rfl) (formed_T c f x at_) (by kernel_rfl) fun hF => by
  unfold formed_T
  refine g_need (by constructor <;> omega) ?_
  refine g_need (by simp; omega) ?_
  refine g_need (by simp; omega) ?_
  refine g_call (values_fun c (([x.2.1, x.2.2.1, x.2.2.2.1]).take (Int.toNat f.1)) at_) (fun _ => rfl) ?_
  refine g_iteN (fun h0 => ?_) (fun h0 => ?_)
  ·exact g_retl (by simp only [formedF, h0, Bool.false_and])
  ·refine g_stop (RunN.keep [0, 1, 2, 3] (F2 (false :: true :: true :: true :: true :: F2 (true :: true :: F32 (F32 (F32 (F32 (F16 (F8 (false :: []))))))))) n0 (by decide) rfl rfl ?_)
   have := formed_l0 c f x at_ f.1 hf.1; simp only [formedF, h0, Bool.true_and]; exact this

end Go.Proofs.YtkonkblfckhcbaaGreatDoor
namespace Go.Proofs.YtkonkblfckhcbaaGreatDoor
set_option linter.unusedVariables false
set_option linter.unusedSimpArgs false
open Go.RowKit

structure Val where
 kind : Int
 n : Int
deriving DecidableEq
structure Ord where
 op : Int
 a : Int
 b : Int
 c : Int
 line : Int
deriving DecidableEq
structure Fn where
 params : Int
 regs : Int
 gen : Bool
 caught : List Int
 code : List Ord
deriving DecidableEq
structure Prog where
 fns : List Fn
 consts : List Val
 texts : List ByteArray

def Val.cells (s : Val) : Array Value := #[.int .i64 s.kind, .int .i64 s.n]
def Ord.cells (i : Ord) : Array Value := #[.int .i64 i.op, .int .i64 i.a, .int .i64 i.b, .int .i64 i.c, .int .i64 i.line]
def rdOrd : Rd Ord where
 sz := 5
 K := fun _ _ x cs => cs = x.cells.toList ∧ Rd.IsInt x.op ∧ Rd.IsInt x.a ∧ Rd.IsInt x.b ∧ Rd.IsInt x.c ∧ Rd.IsInt x.line
 len := fun h' => by rw [h'.1]; rfl
 one := fun h' u hu => by
  rw [h'.1] at hu
  simp [Ord.cells] at hu
  rcases hu with h | h | h | h | h <;> rw [h] <;> rfl
 move := fun _ h => h
 mono := fun _ h => h
 bound := fun h => h
def rdFn : Rd Fn where
 sz := 5
 K := fun ok w x cs => ∃ v1 v2, cs = [.int .i64 x.params, .int .i64 x.regs, .bool x.gen, v1, v2] ∧ (Rd.IsInt x.params ∧ Rd.IsInt x.regs) ∧ SlK Rd.int ok w x.caught v1 ∧ SlK rdOrd ok w x.code v2
 len := fun ⟨v1, v2, h, _⟩ => by rw [h]; rfl
 one := fun ⟨v1, v2, h, _, h1, h2⟩ u hu => by
  rw [h] at hu
  simp at hu
  rcases hu with h | h | h | h | h
  ·rw [h]; rfl
  ·rw [h]; rfl
  ·rw [h]; rfl
  ·rw [h]; exact h1.one
  ·rw [h]; exact h2.one
 move := fun hm ⟨v1, v2, h, hi, h1, h2⟩ => ⟨v1, v2, h, hi, (Rd.slice Rd.int).move hm h1, (Rd.slice rdOrd).move hm h2⟩
 mono := fun hm ⟨v1, v2, h, hi, h1, h2⟩ => ⟨v1, v2, h, hi, (Rd.slice Rd.int).mono hm h1, (Rd.slice rdOrd).mono hm h2⟩
 bound := fun ⟨v1, v2, h, hi, h1, h2⟩ => ⟨v1, v2, h, hi, (Rd.slice Rd.int).bound h1, (Rd.slice rdOrd).bound h2⟩
end Go.Proofs.YtkonkblfckhcbaaGreatDoor
namespace Go.Proofs.YtkonkblfckhcbaaGreatDoor
set_option linter.unusedVariables false
set_option linter.unusedSimpArgs false
open Go.RowKit

end Go.Proofs.YtkonkblfckhcbaaGreatDoor
namespace Go.Proofs.YtkonkblfckhcbaaGreatDoor
set_option linter.unusedVariables false
set_option linter.unusedSimpArgs false
open Go.RowKit

/-- The first place where it holds, or -1. -/
def idxF {α : Type} (p : α → Bool) (xs : List α) : Int := match xs.findIdx? p with | some i => (i : Int) | none => -1
theorem idxF_at {α : Type} (p : α → Bool) (xs : List α) (i : Nat) (hl : ∀ x ∈ xs.take i, p x = false) (x : α) (hx : xs[i]? = some x) (hp : p x = true) : idxF p xs = (i : Int) := by
 have : xs.findIdx? p = some i := by
  rw [List.findIdx?_eq_some_iff_getElem]
  obtain ⟨hi, e⟩ := List.getElem?_eq_some_iff.1 hx
  refine ⟨hi, by rw [e]; exact hp, fun j hj => ?_⟩
  have := hl xs[j] (by rw [List.mem_take_iff_getElem]; exact ⟨j, by omega, rfl⟩)
  simp [this]
 unfold idxF
 rw [this]
theorem idxF_none {α : Type} (p : α → Bool) (xs : List α) (hl : ∀ x ∈ xs, p x = false) : idxF p xs = -1 := by
 have : xs.findIdx? p = none := by
  rw [List.findIdx?_eq_none_iff]
  exact hl
 unfold idxF
 rw [this]
theorem idxF_ge {α : Type} (p : α → Bool) (xs : List α) : decide (0 ≤ idxF p xs) = xs.any p := by
 unfold idxF
 cases h : xs.findIdx? p with
 | none => rw [List.findIdx?_eq_none_iff] at h; simp; exact h
 | some i =>
  obtain ⟨hi, h1, _⟩ := List.findIdx?_eq_some_iff_getElem.1 h
  have : xs.any p = true := List.any_eq_true.2 ⟨_, List.getElem_mem hi, h1⟩
  rw [this]
  simp
set_option maxRecDepth 100000 in
set_option maxHeartbeats 4000000 in
theorem indexStr (ok : Nat → Prop) (g : Nat) (caps : Array Value) (p : ByteArray → Bool) (w : World) (A : Option Addr) (n c : Nat) (xs : List ByteArray) (hC : Rd.str.C ok w A n xs)
  (hg : ∀ args w, (callFunc g args).run Tryz.prog w = .ok (.enter g args) w)
  (H : ∀ x ∈ xs, ∀ w', Below w.heap.size w w' → (x.size ≤ 9223372036854775807) → Calls Tryz.prog g (#[.string x] ++ caps) w' fun e w'' => e = .returned (.bool (p x)) ∧ Below w'.heap.size w' w'') :
  Calls Tryz.prog 193 #[.slice A n c, .func (.func g) #[] caps] w fun e w' => e = .returned (.int .i64 (idxF p xs)) ∧ Below w.heap.size w w' := by
 have hn := hC.1
 have hn2 := hC.2.1
 have HC := Lib.hid hC
 have Hn := Lib.hid hn
 have HH := Lib.hid H
 have HG := Lib.hid hg
 clear hC hn H hg
 go_enter Tryz.func193, Tryz.ntmps193
 go_wp2_with fail
 go_loopw [8] (fun I w1 => ∃ i : Nat, I = .int .i64 (i : Int) ∧ i ≤ n ∧ (∀ x ∈ xs.take i, p x = false) ∧ Hid (Below w.heap.size w w1)) (fun i _ => n - (intOf i).toNat)
 case atStart => exact ⟨0, rfl, Nat.zero_le _, by simp, Lib.hid (Below.refl _ _)⟩
 case round =>
  obtain ⟨i, rfl, hi, ht, HB⟩ := hrel
  have HT := Lib.hid ht
  clear ht
  by_cases hlt : i < n
  ·obtain ⟨x, hx⟩ : ∃ x, xs[i]? = some x := ⟨_, List.getElem?_eq_getElem (by rw [Hn.out]; exact hlt)⟩
   obtain ⟨ad, cs, rfl, _, hsz, ⟨rfl, hxi⟩, hc0, hcj⟩ := (HC.out.move (fun k _ hk => HB.out.block k hk)).elem i _ hx
   have e0 : wr.cell? (ad.add i) = some (.string x) := by have := hc0 _ rfl; simpa [Rd.str] using this
   have K0 := HH.out x (List.mem_of_getElem? hx) wr HB.out hxi
   have K := Lib.hid K0
   have HX := Lib.hid hx
   clear hc0 hcj hx K0
   cases hp : p x with
   | true =>
    have HR := Lib.hid (idxF_at p xs i HT.out x HX.out hp)
    go_wp2_with fail
    rw [HG.out, Oper.upon_enter]
    refine (K.out).mono ?_
    rintro e w1 ⟨rfl, h1⟩
    rw [hp]
    have HB1 := Lib.hid (HB.out.trans (h1.mono HB.out.size))
    clear h1
    go_wp2_with fail
    go_ret
    exact ⟨by rw [HR.out]; first | done | rfl, HB1.out⟩
   | false =>
    go_wp2_with fail
    rw [HG.out, Oper.upon_enter]
    refine (K.out).mono ?_
    rintro e w1 ⟨rfl, h1⟩
    rw [hp]
    have HB1 := Lib.hid (HB.out.trans (h1.mono HB.out.size))
    clear h1
    go_wp2_with fail
    go_roundw
    case rel =>
     refine ⟨i + 1, by go_num, hlt, fun y hy => ?_, HB1⟩
     rw [List.take_add_one, HX.out, List.mem_append] at hy
     rcases hy with hy | hy
     ·exact HT.out y hy
     ·simp at hy; rw [hy]; exact hp
    case measure => simp [intOf]; omega
  ·go_wp2
   go_ret
   exact ⟨by rw [idxF_none p xs (fun x hx => HT.out x (by rwa [List.take_of_length_le (by rw [Hn.out]; omega)]))]; first | done | rfl, HB.out⟩

set_option maxRecDepth 100000 in
theorem containsStr (ok : Nat → Prop) (g : Nat) (caps : Array Value) (p : ByteArray → Bool) (w : World) (A : Option Addr) (n c : Nat) (xs : List ByteArray) (hC : Rd.str.C ok w A n xs)
  (hg : ∀ args w, (callFunc g args).run Tryz.prog w = .ok (.enter g args) w)
  (H : ∀ x ∈ xs, ∀ w', Below w.heap.size w w' → (x.size ≤ 9223372036854775807) → Calls Tryz.prog g (#[.string x] ++ caps) w' fun e w'' => e = .returned (.bool (p x)) ∧ Below w'.heap.size w' w'') :
  Calls Tryz.prog 143 #[.slice A n c, .func (.func g) #[] caps] w fun e w' => e = .returned (.bool (xs.any p)) ∧ Below w.heap.size w w' := by
 have K := Lib.hid (indexStr ok g caps p w A n c xs hC hg H)
 have R := Lib.hid (idxF_ge p xs)
 clear hC H hg
 obtain ⟨r, hr⟩ : ∃ r, r = idxF p xs := ⟨_, rfl⟩
 rw [← hr] at K R
 clear hr
 rw [← R.out]
 by_cases h0 : 0 ≤ r
 ·have hd : decide (0 ≤ r) = true := by simpa using h0
  rw [hd]
  clear hd R
  go_enter Tryz.func143, Tryz.ntmps143
  go_wp2_with fail
  refine (K.out).mono ?_
  rintro e w1 ⟨rfl, h1⟩
  have H1 := Lib.hid h1
  clear h1 K
  go_wp2_with fail
  go_ret
  exact ⟨by simp [h0], H1.out⟩
 ·have hd : decide (0 ≤ r) = false := by simpa using h0
  rw [hd]
  clear hd R
  go_enter Tryz.func143, Tryz.ntmps143
  go_wp2_with fail
  refine (K.out).mono ?_
  rintro e w1 ⟨rfl, h1⟩
  have H1 := Lib.hid h1
  clear h1 K
  go_wp2_with fail
  go_ret
  exact ⟨by simp [h0], H1.out⟩

set_option maxRecDepth 100000 in
set_option maxHeartbeats 4000000 in
theorem indexFn (ok : Nat → Prop) (g : Nat) (caps : Array Value) (p : Fn → Bool) (w : World) (A : Option Addr) (n c : Nat) (xs : List Fn) (hC : rdFn.C ok w A n xs)
  (hg : ∀ args w, (callFunc g args).run Tryz.prog w = .ok (.enter g args) w)
  (H : ∀ x ∈ xs, ∀ w', Below w.heap.size w w' → ∀ v1 v2, SlK Rd.int ok w' x.caught v1 → SlK rdOrd ok w' x.code v2 → (Rd.IsInt x.params ∧ Rd.IsInt x.regs) → Calls Tryz.prog g (#[.agg #[.int .i64 x.params, .int .i64 x.regs, .bool x.gen, v1, v2]] ++ caps) w' fun e w'' => e = .returned (.bool (p x)) ∧ Below w'.heap.size w' w'') :
  Calls Tryz.prog 148 #[.slice A n c, .func (.func g) #[] caps] w fun e w' => e = .returned (.int .i64 (idxF p xs)) ∧ Below w.heap.size w w' := by
 have hn := hC.1
 have hn2 := hC.2.1
 have HC := Lib.hid hC
 have Hn := Lib.hid hn
 have HH := Lib.hid H
 have HG := Lib.hid hg
 clear hC hn H hg
 go_enter Tryz.func148, Tryz.ntmps148
 go_wp2_with fail
 go_loopw [8] (fun I w1 => ∃ i : Nat, I = .int .i64 (i : Int) ∧ i ≤ n ∧ (∀ x ∈ xs.take i, p x = false) ∧ Hid (Below w.heap.size w w1)) (fun i _ => n - (intOf i).toNat)
 case atStart => exact ⟨0, rfl, Nat.zero_le _, by simp, Lib.hid (Below.refl _ _)⟩
 case round =>
  obtain ⟨i, rfl, hi, ht, HB⟩ := hrel
  have HT := Lib.hid ht
  clear ht
  by_cases hlt : i < n
  ·obtain ⟨x, hx⟩ : ∃ x, xs[i]? = some x := ⟨_, List.getElem?_eq_getElem (by rw [Hn.out]; exact hlt)⟩
   obtain ⟨ad, cs, rfl, _, hsz, ⟨v1, v2, rfl, hxi, hv1, hv2⟩, hc0, hcj⟩ := (HC.out.move (fun k _ hk => HB.out.block k hk)).elem i _ hx
   have e0 : wr.cell? (ad.add (i * 5)) = some (.int .i64 x.params) := hc0 _ rfl
   have e1 : wr.cell? ⟨(ad.add (i * 5)).block, (ad.add (i * 5)).off + 1, none⟩ = some (.int .i64 x.regs) := hcj 0 _ rfl
   have e2 : wr.cell? ⟨(ad.add (i * 5)).block, (ad.add (i * 5)).off + 2, none⟩ = some (.bool x.gen) := hcj 1 _ rfl
   have e3 : wr.cell? ⟨(ad.add (i * 5)).block, (ad.add (i * 5)).off + 3, none⟩ = some (v1) := hcj 2 _ rfl
   have e4 : wr.cell? ⟨(ad.add (i * 5)).block, (ad.add (i * 5)).off + 4, none⟩ = some (v2) := hcj 3 _ rfl
   have K0 := HH.out x (List.mem_of_getElem? hx) wr HB.out v1 v2 hv1 hv2 hxi
   have K := Lib.hid K0
   have HX := Lib.hid hx
   clear hc0 hcj hx K0
   cases hp : p x with
   | true =>
    have HR := Lib.hid (idxF_at p xs i HT.out x HX.out hp)
    go_wp2_with fail
    rw [HG.out, Oper.upon_enter]
    refine (K.out).mono ?_
    rintro e w1 ⟨rfl, h1⟩
    rw [hp]
    have HB1 := Lib.hid (HB.out.trans (h1.mono HB.out.size))
    clear h1
    go_wp2_with fail
    go_ret
    exact ⟨by rw [HR.out]; first | done | rfl, HB1.out⟩
   | false =>
    go_wp2_with fail
    rw [HG.out, Oper.upon_enter]
    refine (K.out).mono ?_
    rintro e w1 ⟨rfl, h1⟩
    rw [hp]
    have HB1 := Lib.hid (HB.out.trans (h1.mono HB.out.size))
    clear h1
    go_wp2_with fail
    go_roundw
    case rel =>
     refine ⟨i + 1, by go_num, hlt, fun y hy => ?_, HB1⟩
     rw [List.take_add_one, HX.out, List.mem_append] at hy
     rcases hy with hy | hy
     ·exact HT.out y hy
     ·simp at hy; rw [hy]; exact hp
    case measure => simp [intOf]; omega
  ·go_wp2
   go_ret
   exact ⟨by rw [idxF_none p xs (fun x hx => HT.out x (by rwa [List.take_of_length_le (by rw [Hn.out]; omega)]))]; first | done | rfl, HB.out⟩

set_option maxRecDepth 100000 in
theorem containsFn (ok : Nat → Prop) (g : Nat) (caps : Array Value) (p : Fn → Bool) (w : World) (A : Option Addr) (n c : Nat) (xs : List Fn) (hC : rdFn.C ok w A n xs)
  (hg : ∀ args w, (callFunc g args).run Tryz.prog w = .ok (.enter g args) w)
  (H : ∀ x ∈ xs, ∀ w', Below w.heap.size w w' → ∀ v1 v2, SlK Rd.int ok w' x.caught v1 → SlK rdOrd ok w' x.code v2 → (Rd.IsInt x.params ∧ Rd.IsInt x.regs) → Calls Tryz.prog g (#[.agg #[.int .i64 x.params, .int .i64 x.regs, .bool x.gen, v1, v2]] ++ caps) w' fun e w'' => e = .returned (.bool (p x)) ∧ Below w'.heap.size w' w'') :
  Calls Tryz.prog 97 #[.slice A n c, .func (.func g) #[] caps] w fun e w' => e = .returned (.bool (xs.any p)) ∧ Below w.heap.size w w' := by
 have K := Lib.hid (indexFn ok g caps p w A n c xs hC hg H)
 have R := Lib.hid (idxF_ge p xs)
 clear hC H hg
 obtain ⟨r, hr⟩ : ∃ r, r = idxF p xs := ⟨_, rfl⟩
 rw [← hr] at K R
 clear hr
 rw [← R.out]
 by_cases h0 : 0 ≤ r
 ·have hd : decide (0 ≤ r) = true := by simpa using h0
  rw [hd]
  clear hd R
  go_enter Tryz.func97, Tryz.ntmps97
  go_wp2_with fail
  refine (K.out).mono ?_
  rintro e w1 ⟨rfl, h1⟩
  have H1 := Lib.hid h1
  clear h1 K
  go_wp2_with fail
  go_ret
  exact ⟨by simp [h0], H1.out⟩
 ·have hd : decide (0 ≤ r) = false := by simpa using h0
  rw [hd]
  clear hd R
  go_enter Tryz.func97, Tryz.ntmps97
  go_wp2_with fail
  refine (K.out).mono ?_
  rintro e w1 ⟨rfl, h1⟩
  have H1 := Lib.hid h1
  clear h1 K
  go_wp2_with fail
  go_ret
  exact ⟨by simp [h0], H1.out⟩

end Go.Proofs.YtkonkblfckhcbaaGreatDoor
namespace Go.Proofs.YtkonkblfckhcbaaGreatDoor
set_option linter.unusedVariables false
set_option linter.unusedSimpArgs false
open Go.RowKit

def withinF (n lo hi : Int) : Bool := decide (lo ≤ n) && decide (n ≤ hi)

section
variable (vf vc vt : Value) (params regs : Int) (gen : Bool) (vca vco : Value)
end

/-! ### large -/
def longText (t : ByteArray) : Bool := decide (200 < t.size)
def longFn (f : Fn) : Bool := decide (600 < f.code.length) || decide (60 < f.regs)
theorem large1_any (t : ByteArray) (w : World) (ht : t.size ≤ 9223372036854775807) : Calls Tryz.prog 144 #[.string t] w fun e w' => e = .returned (.bool (longText t)) ∧ Below w.heap.size w w' := by
 by_cases h : 200 < t.size
 ·rw [show longText t = true by simp [longText, h]]
  go_enter Tryz.func144, Tryz.ntmps144
  go_wp2
  go_ret
  exact ⟨by first | (simp [h]; done) | (simp; omega), Below.refl _ _⟩
 ·rw [show longText t = false by simp [longText, h]]
  go_enter Tryz.func144, Tryz.ntmps144
  go_wp2
  go_ret
  exact ⟨by first | (simp [h]; done) | (simp; omega), Below.refl _ _⟩
theorem large2_any (f : Fn) (w : World) (v1 : Value) (A : Option Addr) (c : Nat) (hl : f.code.length ≤ 9223372036854775807) : Calls Tryz.prog 145 #[.agg #[.int .i64 f.params, .int .i64 f.regs, .bool f.gen, v1, .slice A f.code.length c]] w fun e w' => e = .returned (.bool (longFn f)) ∧ Below w.heap.size w w' := by
 unfold longFn
 obtain ⟨params, regs, gen, caught, code⟩ := f
 simp only at hl ⊢
 generalize code.length = m at hl ⊢
 by_cases h : 600 < m
 ·rw [show (decide (600 < m) || decide (60 < regs)) = true by simp [h]]
  go_enter Tryz.func145, Tryz.ntmps145
  go_wp2
  go_ret
  exact ⟨by first | rfl | (simp [h]; done) | (simp; omega), (Below.refl _ _).alloc (Nat.le_refl _) _⟩
 ·by_cases h2 : 60 < regs
  ·rw [show (decide (600 < m) || decide (60 < regs)) = true by simp [h2]]
   go_enter Tryz.func145, Tryz.ntmps145
   go_wp2
   go_ret
   exact ⟨by first | rfl | (simp [h]; done) | (simp; omega), (Below.refl _ _).alloc (Nat.le_refl _) _⟩
  ·rw [show (decide (600 < m) || decide (60 < regs)) = false by simp [h, h2]]
   go_enter Tryz.func145, Tryz.ntmps145
   go_wp2
   go_ret
   exact ⟨by first | rfl | (simp [h]; done) | (simp; omega), (Below.refl _ _).alloc (Nat.le_refl _) _⟩
def largeF (p : Prog) : Bool := decide (60 < p.fns.length) || decide (200 < p.consts.length) || decide (200 < p.texts.length) || p.texts.any longText || p.fns.any longFn

theorem ent_large1 : ∀ args w, (callFunc 144 args).run Tryz.prog w = .ok (.enter 144 args) w := enters_of Tryz.func144 (by kernel_rfl) rfl
theorem ent_large2 : ∀ args w, (callFunc 145 args).run Tryz.prog w = .ok (.enter 145 args) w := enters_of Tryz.func145 (by kernel_rfl) rfl

set_option maxRecDepth 100000 in
theorem large_any (p : Prog) (ok : Nat → Prop) (w : World) (A1 A2 A3 : Option Addr) (c1 c2 c3 : Nat) (h1 : rdFn.C ok w A1 p.fns.length p.fns) (h2 : p.consts.length ≤ 9223372036854775807) (h3 : Rd.str.C ok w A3 p.texts.length p.texts) :
  Calls Tryz.prog 95 #[.agg #[.slice A1 p.fns.length c1, .slice A2 p.consts.length c2, .slice A3 p.texts.length c3]] w fun e w' => e = .returned (.bool (largeF p)) ∧ Below w.heap.size w w' := by
 have B0 : ∀ o, Below w.heap.size w (w.alloc o) := fun o => (Below.refl _ _).alloc (Nat.le_refl _) _
 have hn1 := h1.2.1
 have hn3 := h3.2.1
 have T : ∀ w', Below w.heap.size w w' → Calls Tryz.prog 143 #[.slice A3 p.texts.length c3, .func (.func 144) #[] #[]] w' fun e w'' => e = .returned (.bool (p.texts.any longText)) ∧ Below w'.heap.size w' w'' := fun w' hb =>
  containsStr ok _ #[] longText w' A3 _ c3 p.texts (h3.move (fun k _ hk => hb.block k hk)) ent_large1 (fun x hx w2 _ hi => large1_any x w2 hi)
 have F : ∀ w', Below w.heap.size w w' → Calls Tryz.prog 97 #[.slice A1 p.fns.length c1, .func (.func 145) #[] #[]] w' fun e w'' => e = .returned (.bool (p.fns.any longFn)) ∧ Below w'.heap.size w' w'' := fun w' hb =>
  containsFn ok _ #[] longFn w' A1 _ c1 p.fns (h1.move (fun k _ hk => hb.block k hk)) ent_large2 (fun x hx w2 _ v1 v2 hv1 hv2 hi => by
   obtain ⟨A, c, hv, _, _, _, hC⟩ := hv2
   injection hv with hv
   subst hv
   exact large2_any x w2 v1 A c hC.2.1)
 have HT := Lib.hid T
 have HF := Lib.hid F
 have HB := Lib.hid B0
 clear T F B0 h1 h3
 unfold largeF
 generalize p.texts.any longText = bt at HT ⊢
 generalize p.fns.any longFn = bf at HF ⊢
 generalize p.fns.length = n1 at hn1 HT HF ⊢
 generalize p.consts.length = n2 at h2 ⊢
 generalize p.texts.length = n3 at hn3 HT HF ⊢
 by_cases g1 : 60 < n1
 ·rw [show (decide (60 < n1) || decide (200 < n2) || decide (200 < n3) || bt || bf) = true by simp [g1]]
  go_enter Tryz.func95, Tryz.ntmps95
  go_wp2_with fail
  go_ret
  exact ⟨by first | rfl | (simp; done) | (simp; omega), HB.out _⟩
 by_cases g2 : 200 < n2
 ·rw [show (decide (60 < n1) || decide (200 < n2) || decide (200 < n3) || bt || bf) = true by simp [g2]]
  go_enter Tryz.func95, Tryz.ntmps95
  go_wp2_with fail
  go_ret
  exact ⟨by first | rfl | (simp; done) | (simp; omega), HB.out _⟩
 by_cases g3 : 200 < n3
 ·rw [show (decide (60 < n1) || decide (200 < n2) || decide (200 < n3) || bt || bf) = true by simp [g3]]
  go_enter Tryz.func95, Tryz.ntmps95
  go_wp2_with fail
  go_ret
  exact ⟨by first | rfl | (simp; done) | (simp; omega), HB.out _⟩
 rw [show (decide (60 < n1) || decide (200 < n2) || decide (200 < n3) || bt || bf) = (bt || bf) by simp [g1, g2, g3]]
 cases bt with
 | true =>
  rw [Bool.true_or]
  go_enter Tryz.func95, Tryz.ntmps95
  go_wp2_with fail
  refine (HT.out _ (HB.out _)).mono ?_
  rintro e w1 ⟨rfl, hb⟩
  have H1 := Lib.hid ((HB.out _).trans (hb.mono (HB.out _).size))
  clear hb
  go_wp2_with fail
  go_ret
  exact ⟨by first | rfl | (simp; done) | (simp; omega), H1.out⟩
 | false =>
  rw [Bool.false_or]
  go_enter Tryz.func95, Tryz.ntmps95
  go_wp2_with fail
  refine (HT.out _ (HB.out _)).mono ?_
  rintro e w1 ⟨rfl, hb⟩
  have H1 := Lib.hid ((HB.out _).trans (hb.mono (HB.out _).size))
  have k0 : w1.cell? ⟨w.heap.size, 0, none⟩ = some (.slice A1 n1 c1) := by rw [hb.cell (p := ⟨w.heap.size, 0, none⟩) (by simp)]; simp
  clear hb
  go_wp2_with fail
  refine (HF.out _ H1.out).mono ?_
  rintro e w2 ⟨rfl, hb⟩
  have H2 := Lib.hid (H1.out.trans (hb.mono H1.out.size))
  clear hb
  go_wp2_with fail
  go_ret
  exact ⟨by first | rfl | (simp; done) | (simp; omega), H2.out⟩
end Go.Proofs.YtkonkblfckhcbaaGreatDoor
namespace Go.Proofs.YtkonkblfckhcbaaGreatDoor
set_option linter.unusedVariables false
set_option linter.unusedSimpArgs false
open Go.RowKit

/-- What an order's three places name, by the order: three letters. -/
def formF (op : Int) : Option (UInt8 × UInt8 × UInt8) :=
 if op = 1 then some (114, 107, 45) else
 if op = 2 then some (114, 114, 45) else
 if op = 3 then some (114, 114, 114) else
 if op = 4 then some (114, 114, 114) else
 if op = 5 then some (114, 114, 114) else
 if op = 6 then some (114, 114, 114) else
 if op = 7 then some (114, 114, 114) else
 if op = 8 then some (114, 114, 114) else
 if op = 9 then some (114, 114, 114) else
 if op = 10 then some (114, 114, 114) else
 if op = 11 then some (114, 114, 45) else
 if op = 12 then some (114, 114, 45) else
 if op = 13 then some (97, 45, 45) else
 if op = 14 then some (97, 45, 45) else
 if op = 15 then some (114, 97, 45) else
 if op = 16 then some (114, 45, 45) else
 if op = 17 then some (114, 114, 116) else
 if op = 18 then some (114, 116, 114) else
 if op = 19 then some (114, 108, 110) else
 if op = 20 then some (114, 114, 114) else
 if op = 21 then some (114, 114, 114) else
 if op = 22 then some (114, 45, 45) else
 if op = 23 then some (114, 114, 45) else
 if op = 24 then some (114, 114, 45) else
 if op = 25 then some (114, 117, 45) else
 if op = 26 then some (114, 102, 45) else
 if op = 27 then some (114, 99, 110) else
 if op = 28 then some (114, 45, 45) else
 if op = 29 then some (114, 45, 45) else
 if op = 30 then some (114, 97, 45) else
 if op = 31 then some (45, 45, 45) else
 if op = 32 then some (114, 114, 45) else
 if op = 33 then some (114, 45, 45) else
 if op = 34 then some (114, 45, 45) else
 if op = 35 then some (114, 114, 45) else
 if op = 36 then some (114, 114, 45) else
 if op = 37 then some (114, 45, 45) else
 if op = 38 then some (114, 45, 45) else
 none
def formS (op : Int) : ByteArray := match formF op with | some (a, b, c) => ⟨#[a, b, c]⟩ | none => ⟨#[]⟩
theorem form_none {op : Int} (h : op < 1 ∨ 39 ≤ op) : formF op = none := by
 unfold formF
 rw [if_neg (by omega)]
 rw [if_neg (by omega)]
 rw [if_neg (by omega)]
 rw [if_neg (by omega)]
 rw [if_neg (by omega)]
 rw [if_neg (by omega)]
 rw [if_neg (by omega)]
 rw [if_neg (by omega)]
 rw [if_neg (by omega)]
 rw [if_neg (by omega)]
 rw [if_neg (by omega)]
 rw [if_neg (by omega)]
 rw [if_neg (by omega)]
 rw [if_neg (by omega)]
 rw [if_neg (by omega)]
 rw [if_neg (by omega)]
 rw [if_neg (by omega)]
 rw [if_neg (by omega)]
 rw [if_neg (by omega)]
 rw [if_neg (by omega)]
 rw [if_neg (by omega)]
 rw [if_neg (by omega)]
 rw [if_neg (by omega)]
 rw [if_neg (by omega)]
 rw [if_neg (by omega)]
 rw [if_neg (by omega)]
 rw [if_neg (by omega)]
 rw [if_neg (by omega)]
 rw [if_neg (by omega)]
 rw [if_neg (by omega)]
 rw [if_neg (by omega)]
 rw [if_neg (by omega)]
 rw [if_neg (by omega)]
 rw [if_neg (by omega)]
 rw [if_neg (by omega)]
 rw [if_neg (by omega)]
 rw [if_neg (by omega)]
 rw [if_neg (by omega)]
theorem form_cases {op : Int} (h1 : 1 ≤ op) (h2 : op < 39) : op = 1 ∨ op = 2 ∨ op = 3 ∨ op = 4 ∨ op = 5 ∨ op = 6 ∨ op = 7 ∨ op = 8 ∨ op = 9 ∨ op = 10 ∨ op = 11 ∨ op = 12 ∨ op = 13 ∨ op = 14 ∨ op = 15 ∨ op = 16 ∨ op = 17 ∨ op = 18 ∨ op = 19 ∨ op = 20 ∨ op = 21 ∨ op = 22 ∨ op = 23 ∨ op = 24 ∨ op = 25 ∨ op = 26 ∨ op = 27 ∨ op = 28 ∨ op = 29 ∨ op = 30 ∨ op = 31 ∨ op = 32 ∨ op = 33 ∨ op = 34 ∨ op = 35 ∨ op = 36 ∨ op = 37 ∨ op = 38 := by omega
def formTab : Array Value := #[.string ⟨#[]⟩, .string ⟨#[114, 107, 45]⟩, .string ⟨#[114, 114, 45]⟩, .string ⟨#[114, 114, 114]⟩, .string ⟨#[114, 114, 114]⟩, .string ⟨#[114, 114, 114]⟩, .string ⟨#[114, 114, 114]⟩, .string ⟨#[114, 114, 114]⟩, .string ⟨#[114, 114, 114]⟩, .string ⟨#[114, 114, 114]⟩, .string ⟨#[114, 114, 114]⟩, .string ⟨#[114, 114, 45]⟩, .string ⟨#[114, 114, 45]⟩, .string ⟨#[97, 45, 45]⟩, .string ⟨#[97, 45, 45]⟩, .string ⟨#[114, 97, 45]⟩, .string ⟨#[114, 45, 45]⟩, .string ⟨#[114, 114, 116]⟩, .string ⟨#[114, 116, 114]⟩, .string ⟨#[114, 108, 110]⟩, .string ⟨#[114, 114, 114]⟩, .string ⟨#[114, 114, 114]⟩, .string ⟨#[114, 45, 45]⟩, .string ⟨#[114, 114, 45]⟩, .string ⟨#[114, 114, 45]⟩, .string ⟨#[114, 117, 45]⟩, .string ⟨#[114, 102, 45]⟩, .string ⟨#[114, 99, 110]⟩, .string ⟨#[114, 45, 45]⟩, .string ⟨#[114, 45, 45]⟩, .string ⟨#[114, 97, 45]⟩, .string ⟨#[45, 45, 45]⟩, .string ⟨#[114, 114, 45]⟩, .string ⟨#[114, 45, 45]⟩, .string ⟨#[114, 45, 45]⟩, .string ⟨#[114, 114, 45]⟩, .string ⟨#[114, 114, 45]⟩, .string ⟨#[114, 45, 45]⟩, .string ⟨#[114, 45, 45]⟩]
theorem formTab_at : ∀ i : Nat, i < 39 → formTab[i]? = some (.string (formS i)) := by
 intro i hi
 rcases Nat.lt_or_ge i 1 with h | h
 ·obtain rfl : i = 0 := by omega
  rfl
 ·rcases form_cases (op := i) (by omega) (by omega) with h | h | h | h | h | h | h | h | h | h | h | h | h | h | h | h | h | h | h | h | h | h | h | h | h | h | h | h | h | h | h | h | h | h | h | h | h | h
  all_goals
   obtain rfl := Int.ofNat.inj h
   rfl
theorem wpList_build_eq {P : Program} {ops : Array Oper} {rest : List Oper} {o : Oper} {a : Act} {w : World} {Q : Exit → Act → World → Prop} (hg : o.guard = none) (t : TypeId) (parts : Array (Nat × Operand)) (ho : o.op = .build t parts) (cells : Array Value)
  (hf : P.built t (parts.map fun (i, x) => (i, a.eval x)).toList = some cells)
  (h : wpList P ops Q rest (a.put o.dst (.agg cells)) w) : wpList P ops Q (o :: rest) a w := by
 refine wpList_build hg t parts ho (by rw [hf]; rfl) ?_
 rw [hf]
 exact h
theorem wpList_store_tab {P : Program} {ops : Array Oper} {rest : List Oper} {o : Oper} {a : Act} {w : World} {Q : Exit → Act → World → Prop} (hgd : o.guard = none) (ty : TypeId) (x y : Operand) (ho : o.op = .store ty x y)
  (g : Nat) (cells : Array Value) (hx : a.eval x = .pointer (some ⟨g, 0, none⟩)) (hy : a.eval y = .agg cells)
  (t : TypeId) (old : Array Value) (hg : w.heap[g]? = some (.cells old t (0, 0))) (hi : (P.info? ty).map (·.size) = some cells.size)
  (hold : old.size = cells.size) (h1 : cells.all (·.oneCell') = true)
  (R : World → Prop) (hR : R (w.setRow g cells)) (h : ∀ w1, R w1 → wpList P ops Q rest (a.put o.dst undef) w1) : wpList P ops Q (o :: rest) a w :=
 wpList_store_row hgd ty x y ho g cells hx hy t old hg hi hold h1 (h _ hR)
theorem below_setRow_new (w : World) (o : Obj) (cells : Array Value) : Below w.heap.size w ((w.alloc o).setRow w.heap.size cells) := by
 have h := (Below.refl w.heap.size w).alloc (Nat.le_refl _) o
 exact ⟨h.os, h.tape, h.output, by simp, fun k hk => by rw [setRow_other _ _ _ _ (by omega)]; exact h.block k hk⟩
theorem tab_cell (w : World) (old : Array Value) (t : TypeId) (i : Nat) (hi : i < 39) : ((w.alloc (.cells old t)).setRow w.heap.size formTab).cell? ⟨w.heap.size, i, none⟩ = some (.string (formS i)) := by
 rw [cell_setRow_same _ _ _ _ _ _ _ (heap_alloc_new _ _)]
 exact formTab_at i hi
set_option maxRecDepth 100000 in
set_option maxHeartbeats 8000000 in
theorem form_any (op : Int) (w : World) : Calls Tryz.prog 195 #[.int .i64 op] w fun e w' => e = .returned (.string (formS op)) ∧ Below w.heap.size w w' := by
 by_cases h1 : op < 1
 ·rw [show formS op = ⟨#[]⟩ by simp only [formS, form_none (.inl h1)]]
  go_enter Tryz.func195, Tryz.ntmps195
  go_wp2_with (first | (with_reducible refine wpList_build_eq rfl _ _ rfl formTab (by as_aux_lemma => kernel_rfl) ?_) | (with_reducible refine wpList_store_tab rfl _ _ _ rfl _ formTab rfl rfl _ _ (heap_alloc_new _ _) (by as_aux_lemma => kernel_rfl) rfl (by as_aux_lemma => kernel_rfl) (fun w1 => Hid (Below w.heap.size w w1)) (Lib.hid (below_setRow_new _ _ _)) ?_; intro w1 hb))
  go_ret
  exact ⟨rfl, hb.out⟩
 by_cases h2 : 39 ≤ op
 ·rw [show formS op = ⟨#[]⟩ by simp only [formS, form_none (.inr h2)]]
  go_enter Tryz.func195, Tryz.ntmps195
  go_wp2_with (first | (with_reducible refine wpList_build_eq rfl _ _ rfl formTab (by as_aux_lemma => kernel_rfl) ?_) | (with_reducible refine wpList_store_tab rfl _ _ _ rfl _ formTab rfl rfl _ _ (heap_alloc_new _ _) (by as_aux_lemma => kernel_rfl) rfl (by as_aux_lemma => kernel_rfl) (fun w1 => Hid (Below w.heap.size w w1)) (Lib.hid (below_setRow_new _ _ _)) ?_; intro w1 hb))
  go_ret
  exact ⟨rfl, hb.out⟩
 obtain ⟨i, rfl⟩ := Int.eq_ofNat_of_zero_le (show 0 ≤ op by omega)
 have hi : i < 39 := by omega
 go_enter Tryz.func195, Tryz.ntmps195
 go_wp2_with (first | (with_reducible refine wpList_build_eq rfl _ _ rfl formTab (by as_aux_lemma => kernel_rfl) ?_) | (with_reducible refine wpList_store_tab rfl _ _ _ rfl _ formTab rfl rfl _ _ (heap_alloc_new _ _) (by as_aux_lemma => kernel_rfl) rfl (by as_aux_lemma => kernel_rfl) (fun w1 => w1.cell? ⟨w.heap.size, i, none⟩ = some (.string (formS i)) ∧ Hid (Below w.heap.size w w1)) ⟨tab_cell _ _ _ _ hi, Lib.hid (below_setRow_new _ _ _)⟩ ?_; rintro w1 ⟨e0, hb⟩))
 go_ret
 exact ⟨rfl, hb.out⟩
end Go.Proofs.YtkonkblfckhcbaaGreatDoor
namespace Go.Proofs.YtkonkblfckhcbaaGreatDoor
set_option linter.unusedVariables false
set_option linter.unusedSimpArgs false
/-- What a look knows: how many functions, constants, texts, registers, caught ones, orders. -/
structure Lk where
 nf : Nat
 nc : Nat
 nt : Nat
 regs : Int
 ng : Nat
 no : Nat
def namesF (l : Lk) (c : UInt8) (n : Int) : Bool :=
 if c = 114 then withinF n 0 (l.regs - 1)
 else if c = 107 then withinF n 0 ((l.nc : Int) - 1)
 else if c = 116 then withinF n 0 ((l.nt : Int) - 1)
 else if c = 97 then withinF n 0 ((l.no : Int) - 1)
 else if c = 117 then withinF n 0 ((l.ng : Int) - 1)
 else if c = 102 then withinF n 1 ((l.nf : Int) - 1)
 else if c = 108 ∨ c = 99 ∨ c = 110 then withinF n 0 l.regs
 else decide (n = 0)
def caughtF (regs : Int) (ng : Nat) (cs : List Int) : Bool := !(cs.any fun c => !withinF c 0 (regs - 1) && !withinF c (-(ng : Int)) (-1))
def ordTailF (fns : List Fn) (l : Lk) (gen : Bool) (at_ : Int) (i : Ord) : Bool :=
 if i.op = 14 then decide (i.a ≤ at_)
 else if i.op = 19 then decide (i.b + i.c ≤ l.regs)
 else if i.op = 27 then withinF (i.b + i.c) 0 (l.regs - 1)
 else if i.op = 26 then match fns[i.b.toNat]? with | some f => caughtF l.regs l.ng f.caught | none => true
 else if i.op = 32 then gen
 else true
def orderF (fns : List Fn) (l : Lk) (gen : Bool) (at_ : Int) (i : Ord) : Bool :=
 match formF i.op with
 | none => false
 | some (a, b, c) => withinF i.line 0 2000 && namesF l a i.a && namesF l b i.b && namesF l c i.c && ordTailF fns l gen at_ i
theorem within_iff {n lo hi : Int} : withinF n lo hi = true ↔ lo ≤ n ∧ n ≤ hi := by simp [withinF]
end Go.Proofs.YtkonkblfckhcbaaGreatDoor
namespace Go.Proofs.YtkonkblfckhcbaaGreatDoor
set_option linter.unusedVariables false
set_option linter.unusedSimpArgs false
open Go.RowKit

structure Tr where
 reg : Int
 at_ : Int
deriving DecidableEq
def Tr.cells (s : Tr) : Array Value := #[.int .i64 s.reg, .int .i64 s.at_]
def rdTry : Rd Tr where
 sz := 2
 K := fun _ _ x cs => cs = x.cells.toList ∧ Rd.IsInt x.reg ∧ Rd.IsInt x.at_
 len := fun h' => by rw [h'.1]; rfl
 one := fun h' u hu => by
  rw [h'.1] at hu
  simp [Tr.cells] at hu
  rcases hu with h | h <;> rw [h] <;> rfl
 move := fun _ h => h
 mono := fun _ h => h
 bound := fun h => h

set_option maxRecDepth 100000 in
set_option maxHeartbeats 4000000 in
/-- Whether two lists of tries are the same. -/
theorem eqTry_any (w : World) (A B : Option Addr) (n m c c' : Nat) (xs ys : List Tr) (ok ok' : Nat → Prop) (hA : rdTry.C ok w A n xs) (hB : rdTry.C ok' w B m ys) :
  Calls Tryz.prog 94 #[.slice A n c, .slice B m c'] w fun e w' => e = .returned (.bool (decide (xs = ys))) ∧ Below w.heap.size w w' := by
 have hn := hA.1
 have hm := hB.1
 have hn2 := hA.2.1
 by_cases hnm : n = m
 ·subst hnm
  have hd : ((n : Int) != (n : Int)) = false := by simp
  have HA := Lib.hid hA
  have HB := Lib.hid hB
  have Hn := Lib.hid hn
  have Hm := Lib.hid hm
  clear hA hB hn hm
  go_enter Tryz.func94, Tryz.ntmps94
  go_wp2_with fail
  go_loopw [13] (fun I w1 => ∃ i : Nat, I = .int .i64 (i : Int) ∧ i ≤ n ∧ xs.take i = ys.take i ∧ Hid (Below w.heap.size w w1)) (fun i _ => n - (intOf i).toNat)
  case atStart => exact ⟨0, rfl, Nat.zero_le _, rfl, Lib.hid (Below.refl _ _)⟩
  case round =>
   obtain ⟨i, rfl, hi, ht, HW⟩ := hrel
   have HT := Lib.hid ht
   clear ht
   by_cases hlt : i < n
   ·obtain ⟨x, hx⟩ : ∃ x, xs[i]? = some x := ⟨_, List.getElem?_eq_getElem (by rw [Hn.out]; exact hlt)⟩
    obtain ⟨y, hy⟩ : ∃ y, ys[i]? = some y := ⟨_, List.getElem?_eq_getElem (by rw [Hm.out]; exact hlt)⟩
    obtain ⟨ad, cs, rfl, _, _, ⟨rfl, _⟩, hc0, hcj⟩ := (HA.out.move (fun k _ hk => HW.out.block k hk)).elem i _ hx
    obtain ⟨bd, cs, rfl, _, _, ⟨rfl, _⟩, hd0, hdj⟩ := (HB.out.move (fun k _ hk => HW.out.block k hk)).elem i _ hy
    have e0 : wr.cell? (ad.add (i * 2)) = some (.int .i64 x.reg) := hc0 _ rfl
    have e1 : wr.cell? (bd.add (i * 2)) = some (.int .i64 y.reg) := hd0 _ rfl
    have e2 : wr.cell? ⟨(ad.add (i * 2)).block, (ad.add (i * 2)).off + 1, none⟩ = some (.int .i64 x.at_) := hcj 0 _ rfl
    have e3 : wr.cell? ⟨(bd.add (i * 2)).block, (bd.add (i * 2)).off + 1, none⟩ = some (.int .i64 y.at_) := hdj 0 _ rfl
    have hx' := Lib.hid hx
    have hy' := Lib.hid hy
    clear hc0 hd0 hcj hdj hx hy
    obtain ⟨xr, xa⟩ := x
    obtain ⟨yr, ya⟩ := y
    simp only at e0 e1 e2 e3
    have hlt1 : (i : Int) < (n : Int) := by omega
    have hlt2 : (0 : Int) ≤ (i : Int) := by omega
    by_cases hr : xr = yr
    ·subst hr
     by_cases ha : xa = ya
     ·subst ha
      go_wp2_with fail
      go_quiet (fail)
      go_wp2_with fail
      go_roundw
      case rel => exact ⟨i + 1, by go_num, hlt, by rw [List.take_add_one, List.take_add_one, HT.out, hx'.out, hy'.out], Lib.hid ⟨HW.out.os, HW.out.tape, HW.out.output, HW.out.size, HW.out.block⟩⟩
      case measure => simp [intOf]; omega
     ·have hb : (xa != ya) = true := by simpa using ha
      have hb' : (xa == ya) = false := by simpa using ha
      go_wp2_with fail
      go_quiet (fail)
      go_wp2_with fail
      go_ret
      refine ⟨?_, ⟨HW.out.os, HW.out.tape, HW.out.output, HW.out.size, HW.out.block⟩⟩
      have : ¬ xs = ys := fun h => ha (by have := hx'.out; rw [h, hy'.out] at this; injection this with this; injection this with _ this; exact this.symm)
      simp [this]
    ·have hb : (xr != yr) = true := by simpa using hr
     have hb' : (xr == yr) = false := by simpa using hr
     go_wp2_with fail
     go_quiet (fail)
     go_wp2_with fail
     go_ret
     refine ⟨?_, ⟨HW.out.os, HW.out.tape, HW.out.output, HW.out.size, HW.out.block⟩⟩
     have : ¬ xs = ys := fun h => hr (by have := hx'.out; rw [h, hy'.out] at this; injection this with this; injection this with this _; exact this.symm)
     simp [this]
   ·go_wp2_with fail
    go_ret
    refine ⟨?_, HW.out⟩
    have h1 := HT.out
    rw [List.take_of_length_le (by rw [Hn.out]; omega), List.take_of_length_le (by rw [Hm.out]; omega)] at h1
    simp [h1]
 ·have hb : ((n : Int) != (m : Int)) = true := by simp; omega
  have hne : decide (xs = ys) = false := by
   simp only [decide_eq_false_iff_not]
   intro h; rw [h] at hn; omega
  have Hne := Lib.hid hne
  clear hne hn hm hA hB
  rw [Hne.out]
  go_enter Tryz.func94, Tryz.ntmps94
  go_wp2_with fail
  go_ret
  exact ⟨rfl, Below.refl _ _⟩
end Go.Proofs.YtkonkblfckhcbaaGreatDoor
namespace Go.Proofs.YtkonkblfckhcbaaGreatDoor
set_option linter.unusedVariables false
set_option linter.unusedSimpArgs false
open Go.RowKit

theorem run_eql_some_nil {P : Program} (w : World) (t e : TypeId) (a : Addr) (n c : Nat) (h : P.underlying t = some (.slice e)) : (binOp .eql t (.slice (some a) n c) (.slice none 0 0)).run P w = .ok (.bool false) w := by
 simp only [binOp]
 simp [Op.equal, Op.maxDepth, Lib.run_equalIn_slice_nil w 9999 t e (some a) n c 0 0 h]

theorem run_eql_nil_nil {P : Program} (w : World) (t e : TypeId) (h : P.underlying t = some (.slice e)) : (binOp .eql t (.slice none 0 0) (.slice none 0 0)).run P w = .ok (.bool true) w := by
 simp only [binOp]
 simp [Op.equal, Op.maxDepth, Lib.run_equalIn_slice_nil w 9999 t e none 0 0 0 0 h]
theorem infoTry : (Tryz.prog.info? 101).map (fun i => (i.zero, i.size, i.bytes)) = some (some (Value.agg #[.int .i64 0, .int .i64 0]), 2, 16) := by kernel_rfl
/-- A slice just laid, with no room. -/
theorem Own.laid {α : Type} (d : Rd α) (e : TypeId) (ok : Nat → Prop) (w : World) (base : Nat) (hb : base ≤ w.heap.size) : Own d e ok (w.alloc (.cells #[] e)) base (.slice (some ⟨w.heap.size, 0, none⟩) 0 0) [] :=
 ⟨[], ⟨by simp, .inr ⟨w.heap.size, 0, #[], rfl, hb, heap_alloc_new _ _, Nat.le_refl _, by simp [maxLen], by simp, by simp⟩⟩, fun i x h => by simp at h⟩
/-- Of what leads nowhere: whatever may be read. -/
theorem Own.any {e : TypeId} {ok ok' : Nat → Prop} {w : World} {base : Nat} {v : Value} {xs : List Tr} (h : Own rdTry e ok w base v xs) : Own rdTry e ok' w base v xs := by
 obtain ⟨c, h1, h2⟩ := h.ex
 exact ⟨c, h1, fun i x hi => h2 i x hi⟩

set_option maxRecDepth 100000 in
set_option maxHeartbeats 4000000 in
theorem cloneTry_any (ok : Nat → Prop) (w : World) (v : Value) (xs : List Tr) (h : SlK rdTry ok w xs v) (hl : xs.length ≤ 1000) :
  Calls Tryz.prog 85 #[v] w fun e w' => ∃ v1, e = .returned v1 ∧ Below w.heap.size w w' ∧ Own rdTry 101 (fun _ => False) w' w.heap.size v1 xs := by
 obtain ⟨A, c, hv, h1, h2, h3, hC⟩ := h
 injection hv with hv
 subst hv
 cases A with
 | none =>
  have hc : c = 0 := h3 rfl
  subst hc
  have hx : xs = [] := List.eq_nil_of_length_eq_zero (by omega)
  subst hx
  clear hC h1 h2 h3 hl
  have hq : ([] : List Tr).length = 0 := rfl
  rw [hq]
  have heq : ∀ w, (binOp .eql 59 (.slice none 0 0) (.slice none 0 0)).run Tryz.prog w = .ok (.bool true) w := fun w => run_eql_nil_nil w _ _ Tryz.underlying59
  go_enter Tryz.func85, Tryz.ntmps85
  go_wp2_with fail
  go_ret
  exact ⟨_, rfl, Below.refl _ _, Own.nil _ _ _ _ _⟩
 | some a =>
  have heq : ∀ w, (binOp .eql 59 (.slice (some a) xs.length c) (.slice none 0 0)).run Tryz.prog w = .ok (.bool false) w := fun w => run_eql_some_nil w _ _ _ _ _ Tryz.underlying59
  have hB : Below w.heap.size w (w.alloc (.cells #[] 101)) := (Below.refl _ _).alloc (Nat.le_refl _) _
  obtain ⟨v1, w2, hr, ho, hg, hat⟩ := (Own.laid rdTry 101 (fun k => ok k ∧ k < w.heap.size) w w.heap.size (Nat.le_refl _)).append (t := 59) Tryz.underlying59 infoTry rfl (by decide) (by decide) (some a) xs.length c (fun h => by cases h) ((hC.bound).move (fun k hk _ => hB.block k hk.2)) (fun k hk => ⟨hk, by simp only [Value.ownBlock]; intro he; injection he with he; omega⟩) (by simp; omega) (by simp) 59
  have hres : Below w.heap.size w w2 ∧ Own rdTry 101 (fun _ => False) w2 w.heap.size v1 xs := by
   refine ⟨hB.grown hg hB.size (fun k hk => by simp [Value.ownBlock] at hk; omega), ?_⟩
   rw [List.nil_append] at ho
   exact ho.any
  have H := Lib.hid hres
  clear hres ho hg hat hB hC h3 h1 h2 hl
  generalize xs.length = m at *
  go_enter Tryz.func85, Tryz.ntmps85
  go_wp2_with (at_builtin; refine wpList_append_eq rfl _ _ _ rfl _ _ rfl rfl hr ?_)
  go_ret
  exact ⟨_, rfl, H.out.1, H.out.2⟩
end Go.Proofs.YtkonkblfckhcbaaGreatDoor
namespace Go.Proofs.YtkonkblfckhcbaaGreatDoor
set_option linter.unusedVariables false
set_option linter.unusedSimpArgs false
open Go.RowKit

structure St where
 seen : List Bool
 out : List (List Tr)
 todo : List Int
 bad : Bool
def comeF (n : Nat) (st : St) (at_ : Int) (l : List Tr) : St :=
 if (n : Int) ≤ at_ ∨ 20 < l.length then { st with bad := true }
 else if st.seen[at_.toNat]? = some false then { st with seen := st.seen.set at_.toNat true, out := st.out.set at_.toNat l, todo := st.todo ++ [at_] }
 else if st.out[at_.toNat]? = some l then st
 else { st with bad := true }

theorem cell_at {w : World} {b : Nat} {cs : Array Value} {t : TypeId} {fr : Nat × Nat} (h : w.heap[b]? = some (.cells cs t fr)) (i : Nat) {v : Value} (hi : cs[i]? = some v) : w.cell? ⟨b, i, none⟩ = some v := by
 rw [World.cell?, h]; exact hi
/-- A block just laid reads as laid. -/
theorem laid_cell {w : World} (cs : Array Value) (t : TypeId) (i : Nat) (v : Value) (h : cs[i]? = some v) : (w.alloc (.cells cs t)).cell? ⟨w.heap.size, i, none⟩ = some v := by
 rw [World.cell?, heap_alloc_new]; exact h
theorem free_at {w : World} {b : Nat} {cs : Array Value} {t : TypeId} (h : w.heap[b]? = some (.cells cs t (0, 0))) (i : Nat) : w.frozen? ⟨b, i, none⟩ = false := by
 simp [World.frozen?, h]
theorem block_set {w : World} {b : Nat} {cs : Array Value} {t : TypeId} {fr : Nat × Nat} (h : w.heap[b]? = some (.cells cs t fr)) (i : Nat) (v : Value) : (w.setCell ⟨b, i, none⟩ v).heap[b]? = some (.cells (cs.setIfInBounds i v) t fr) := by
 have hlt : b < w.heap.size := (Array.getElem?_eq_some_iff.1 h).1
 have h' : w.heap[b] = .cells cs t fr := (Array.getElem?_eq_some_iff.1 h).2
 show (w.heap.modify b _)[b]? = _
 rw [Array.getElem?_eq_getElem (by simpa using hlt), Array.getElem_modify_self, h']
 rfl

/-- The fields of a walk that stay. -/
structure Wf where
 n : Nat
 wb : Nat
 sb : Nat
 ob : Nat
 params : Int
 regs : Int
 gen : Bool
 v1 : Value
 A5 : Option Addr
 c5 : Nat
abbrev Wf.cells (f : Wf) (vt : Value) (bad : Bool) : Array Value := #[.int .i64 f.params, .int .i64 f.regs, .bool f.gen, f.v1, .slice f.A5 f.n f.c5, .slice (some ⟨f.sb, 0, none⟩) f.n f.n, .slice (some ⟨f.ob, 0, none⟩) f.n f.n, vt, .bool bad]
/-- What a walk's lists of tries may lie in. -/
def Wf.ok (f : Wf) (vt : Value) (k : Nat) : Prop := f.wb < k ∧ k ≠ f.sb ∧ k ≠ f.ob ∧ some k ≠ vt.ownBlock
structure WS (w : World) (base : Nat) (f : Wf) (vt : Value) (st : St) : Prop where
 hw : w.heap[f.wb]? = some (.cells (f.cells vt st.bad) 248 (0, 0))
 hs : w.heap[f.sb]? = some (.cells (st.seen.map Value.bool).toArray 4 (0, 0))
 ho : ∃ outv : List Value, w.heap[f.ob]? = some (.cells outv.toArray 59 (0, 0)) ∧ outv.length = f.n ∧ ∀ (i : Nat) (v : Value) (l : List Tr), outv[i]? = some v → st.out[i]? = some l → SlK rdTry (f.ok vt) w l v
 own : Own Rd.int 3 (fun _ => False) w base vt st.todo
 ne : f.wb ≠ f.sb ∧ f.sb ≠ f.ob ∧ f.wb ≠ f.ob ∧ base ≤ f.wb ∧ base ≤ f.sb ∧ base ≤ f.ob
 tb : vt.ownBlock ≠ some f.wb ∧ vt.ownBlock ≠ some f.sb ∧ vt.ownBlock ≠ some f.ob
 ls : st.seen.length = f.n
 lo : st.out.length = f.n
 hn : f.n ≤ 600

theorem WS.same {w w1 : World} {base : Nat} {f : Wf} {vt : Value} {st : St} (h : WS w base f vt st) (hk : ∀ k, k < w.heap.size → w1.heap[k]? = w.heap[k]?) : WS w1 base f vt st := by
 have lt : ∀ {k o}, w.heap[k]? = some o → k < w.heap.size := fun h => (Array.getElem?_eq_some_iff.1 h).1
 obtain ⟨outv, h1, h2, h3⟩ := h.ho
 exact ⟨(hk _ (lt h.hw)).trans h.hw, (hk _ (lt h.hs)).trans h.hs, ⟨outv, (hk _ (lt h1)).trans h1, h2, fun i v l hv hl => (Rd.slice rdTry).move (fun k _ hlt => hk k hlt) (h3 i v l hv hl)⟩, h.own.move (fun k _ hlt => hk k hlt), h.ne, h.tb, h.ls, h.lo, h.hn⟩
/-- What a step keeps: whatever is not the walk's own. -/
structure Kept (f : Wf) (w w1 : World) (vt vt1 : Value) : Prop where
 block : ∀ k, k < w.heap.size → f.ok vt k → w1.heap[k]? = w.heap[k]?
 own : ∀ k, k < w.heap.size → some k ≠ vt.ownBlock → some k ≠ vt1.ownBlock
 size : w.heap.size ≤ w1.heap.size
theorem Kept.refl (f : Wf) (w : World) (vt : Value) : Kept f w w vt vt := ⟨fun _ _ _ => rfl, fun _ _ h => h, Nat.le_refl _⟩
theorem Kept.trans {f : Wf} {w w1 w2 : World} {vt vt1 vt2 : Value} (h : Kept f w w1 vt vt1) (h1 : Kept f w1 w2 vt1 vt2) : Kept f w w2 vt vt2 :=
 ⟨fun k hk ho => (h1.block k (Nat.lt_of_lt_of_le hk h.size) ⟨ho.1, ho.2.1, ho.2.2.1, h.own k hk ho.2.2.2⟩).trans (h.block k hk ho), fun k hk hv => h1.own k (Nat.lt_of_lt_of_le hk h.size) (h.own k hk hv), Nat.le_trans h.size h1.size⟩
theorem Kept.same {f : Wf} {w w1 : World} {vt : Value} (hb : Below w.heap.size w w1) : Kept f w w1 vt vt := ⟨fun k hk _ => hb.block k hk, fun _ _ h => h, hb.size⟩
/-- A list of tries stays. -/
theorem Kept.list {f : Wf} {w w1 : World} {vt vt1 : Value} (h : Kept f w w1 vt vt1) {l : List Tr} {v : Value} (hl : SlK rdTry (f.ok vt) w l v) : SlK rdTry (f.ok vt1) w1 l v :=
 (Rd.slice rdTry).mono (fun k hk => ⟨hk.1.1, hk.1.2.1, hk.1.2.2.1, h.own k hk.2 hk.1.2.2.2⟩) ((Rd.slice rdTry).move (fun k hk _ => h.block k hk.2 hk.1) ((Rd.slice rdTry).bound hl))
theorem Kept.wbset (f : Wf) (w : World) (i : Nat) (u : Value) (vt : Value) : Kept f w (w.setCell ⟨f.wb, i, none⟩ u) vt vt :=
 ⟨fun k _ ho => Below.heap_setCell _ _ _ _ (Nat.ne_of_gt ho.1), fun _ _ h => h, by simp [World.setCell]⟩
/-- The mark that it is bad. -/
theorem WS.setBad {w : World} {base : Nat} {f : Wf} {vt : Value} {st : St} (h : WS w base f vt st) : WS (w.setCell ⟨f.wb, 8, none⟩ (.bool true)) base f vt { st with bad := true } := by
 obtain ⟨n1, n2, n3, b1, b2, b3⟩ := h.ne
 obtain ⟨t1, t2, t3⟩ := h.tb
 have K : ∀ k, k ≠ f.wb → (w.setCell ⟨f.wb, 8, none⟩ (.bool true)).heap[k]? = w.heap[k]? := fun k hk => Below.heap_setCell _ _ _ _ hk
 have hq : ∀ k, (False ∨ vt.ownBlock = some k) → k ≠ f.wb := by
  rintro k (hk | hk) rfl
  ·exact hk
  ·exact t1 hk
 obtain ⟨outv, h1, h2, h3⟩ := h.ho
 refine ⟨?_, (K _ (Ne.symm n1)).trans h.hs, ⟨outv, (K _ (Ne.symm n3)).trans h1, h2, fun i v l hv hl => (Rd.slice rdTry).move (fun k hk _ => K k (Nat.ne_of_gt hk.1)) (h3 i v l hv hl)⟩, h.own.move (fun k hk _ => K k (hq k hk)), h.ne, h.tb, h.ls, h.lo, h.hn⟩
 rw [block_set h.hw 8]
 rfl
theorem WS.below {w : World} {base : Nat} {f : Wf} {vt : Value} {st : St} (h : WS w base f vt st) (i : Nat) (v : Value) : Below base w (w.setCell ⟨f.wb, i, none⟩ v) := by
 obtain ⟨n1, n2, n3, b1, b2, b3⟩ := h.ne
 exact (Below.refl _ _).setCell b1 v

/-- A place is seen, and its tries are laid down. -/
theorem WS.mark {w : World} {base : Nat} {f : Wf} {vt : Value} {st : St} (h : WS w base f vt st) (i : Nat) (hi : i < f.n) (v : Value) (l : List Tr) (hl : SlK rdTry (f.ok vt) w l v) :
  WS ((w.setCell ⟨f.sb, i, none⟩ (.bool true)).setCell ⟨f.ob, i, none⟩ v).drew base f vt { st with seen := st.seen.set i true, out := st.out.set i l } ∧ Below base w ((w.setCell ⟨f.sb, i, none⟩ (.bool true)).setCell ⟨f.ob, i, none⟩ v).drew ∧ Kept f w ((w.setCell ⟨f.sb, i, none⟩ (.bool true)).setCell ⟨f.ob, i, none⟩ v).drew vt vt := by
 obtain ⟨n1, n2, n3, b1, b2, b3⟩ := h.ne
 obtain ⟨t1, t2, t3⟩ := h.tb
 obtain ⟨outv, h1, h2, h3⟩ := h.ho
 have K : ∀ k, k ≠ f.sb → k ≠ f.ob → ((w.setCell ⟨f.sb, i, none⟩ (.bool true)).setCell ⟨f.ob, i, none⟩ v).drew.heap[k]? = w.heap[k]? := fun k hk hk' => by
  show ((w.setCell ⟨f.sb, i, none⟩ (.bool true)).setCell ⟨f.ob, i, none⟩ v).heap[k]? = _
  rw [Below.heap_setCell _ _ _ _ hk', Below.heap_setCell _ _ _ _ hk]
 have hq : ∀ k, (False ∨ vt.ownBlock = some k) → k ≠ f.sb ∧ k ≠ f.ob := by
  rintro k (hk | hk)
  ·exact hk.elim
  ·exact ⟨by rintro rfl; exact t2 hk, by rintro rfl; exact t3 hk⟩
 refine ⟨⟨(K _ n1 n3).trans h.hw, ?_, ⟨outv.set i v, ?_, by rw [List.length_set]; exact h2, fun j u m hu hm => ?_⟩, h.own.move (fun k hk _ => K k (hq k hk).1 (hq k hk).2), h.ne, h.tb, by rw [List.length_set]; exact h.ls, by rw [List.length_set]; exact h.lo, h.hn⟩, ((Below.refl _ _).setCell b2 _).setCell b3 _ |>.drew, ⟨fun k _ ho => K k ho.2.1 ho.2.2.1, fun _ _ h => h, by show w.heap.size ≤ ((w.setCell ⟨f.sb, i, none⟩ (.bool true)).setCell ⟨f.ob, i, none⟩ v).heap.size; simp [World.setCell]⟩⟩
 ·show ((w.setCell ⟨f.sb, i, none⟩ (.bool true)).setCell ⟨f.ob, i, none⟩ v).heap[f.sb]? = _
  rw [Below.heap_setCell _ _ _ _ n2, block_set h.hs i]
  simp [List.map_set]
 ·show ((w.setCell ⟨f.sb, i, none⟩ (.bool true)).setCell ⟨f.ob, i, none⟩ v).heap[f.ob]? = _
  rw [block_set (cs := outv.toArray) (by rw [Below.heap_setCell _ _ _ _ (Ne.symm n2)]; exact h1) i]
  simp
 ·have mv : ∀ {m : List Tr} {u : Value}, SlK rdTry (f.ok vt) w m u → SlK rdTry (f.ok vt) ((w.setCell ⟨f.sb, i, none⟩ (.bool true)).setCell ⟨f.ob, i, none⟩ v).drew m u := fun hm => (Rd.slice rdTry).move (fun k hk _ => K k hk.2.1 hk.2.2.1) hm
  simp only at hm
  by_cases hij : i = j
  ·subst hij
   rw [List.getElem?_set_self (by rw [h2]; exact hi)] at hu
   rw [List.getElem?_set_self (by rw [h.lo]; exact hi)] at hm
   injection hu with hu
   injection hm with hm
   subst hu hm
   exact mv hl
  ·rw [List.getElem?_set_ne hij] at hu hm
   exact mv (h3 j u m hu hm)
/-- A place comes behind those that are to be done. -/
theorem WS.push {w : World} {base : Nat} {f : Wf} {vt : Value} {st : St} (h : WS w base f vt st) (i : Nat) (hi : i < f.n) (hlen : st.todo.length ≤ 1000) (hbase : base ≤ w.heap.size) :
  ∃ v1 w1, (Builtin.append_ #[94, 94] 94 #[vt, .slice (some ⟨w.heap.size, 0, none⟩) 1 1]).run Tryz.prog (w.alloc (.cells #[.int .i64 i] 3)) = .ok v1 w1 ∧
   w1.heap[f.wb]? = some (.cells (f.cells vt st.bad) 248 (0, 0)) ∧ Below base w (w1.setCell ⟨f.wb, 7, none⟩ v1) ∧ Kept f w (w1.setCell ⟨f.wb, 7, none⟩ v1) vt v1 ∧ WS (w1.setCell ⟨f.wb, 7, none⟩ v1) base f v1 { st with todo := st.todo ++ [(i : Int)] } := by
 have hn := h.hn
 obtain ⟨n1, n2, n3, b1, b2, b3⟩ := h.ne
 obtain ⟨t1, t2, t3⟩ := h.tb
 obtain ⟨outv, h1, h2, h3⟩ := h.ho
 have lt : ∀ {k o}, w.heap[k]? = some o → k < w.heap.size := fun h => (Array.getElem?_eq_some_iff.1 h).1
 have lw := lt h.hw
 have ls := lt h.hs
 have lo := lt h1
 have hC := C_lit (w := w.alloc (.cells #[.int .i64 i] 3)) w.heap.size #[.int .i64 i] _ _ (heap_alloc_new _ _) 1 [(i : Int)] rfl (fun j x hx => by
  match j, hx with
  | 0, hx => simp at hx; subst hx; exact ⟨rfl, by simp only [Rd.IsInt]; omega⟩
  | j + 1, hx => simp at hx) (by omega)
 obtain ⟨v1, w1, hr, ho, hg, hat⟩ := (h.own.alloc (.cells #[.int .i64 i] 3)).mono (ok' := fun k => k = w.heap.size) (fun k hk => hk.elim) |>.append (t := 94) Tryz.underlying94 infoInt rfl (by decide) (by decide) (some ⟨w.heap.size, 0, none⟩) 1 1 (fun h => by cases h) hC (fun k hk => ⟨hk, fun he => by have := (h.own.lt k he.symm).2; omega⟩) (by omega) (by simp; omega) 94
 -- what the append leaves alone
 have K1 : ∀ k, k < w.heap.size → some k ≠ vt.ownBlock → w1.heap[k]? = w.heap[k]? := fun k hk hv => by
  rw [hg.block k (by simp; omega) hv, Below.heap_alloc _ _ _ hk]
 have K : ∀ k, k < w.heap.size → some k ≠ vt.ownBlock → k ≠ f.wb → (w1.setCell ⟨f.wb, 7, none⟩ v1).heap[k]? = w.heap[k]? := fun k hk hv hw => by
  rw [Below.heap_setCell _ _ _ _ hw, K1 k hk hv]
 have hw1 : w1.heap[f.wb]? = some (.cells (f.cells vt st.bad) 248 (0, 0)) := (K1 _ lw (Ne.symm t1)).trans h.hw
 have hne : ∀ k, k < w.heap.size → some k ≠ vt.ownBlock → some k ≠ v1.ownBlock := fun k hk hv => by
  rcases hat with hat | hat
  ·rw [hat]; exact hv
  ·rw [hat]; intro he; injection he with he; simp at he; omega
 have B0 : Below base w (w.alloc (.cells #[.int .i64 i] 3)) := (Below.refl _ _).alloc hbase _
 have B1 : Below base w w1 := B0.grown hg (by simp; omega) (fun k hk => (h.own.lt k hk).1)
 have S1 : w.heap.size ≤ w1.heap.size := by have := hg.size; simp at this; omega
 refine ⟨v1, w1, hr, hw1, B1.setCell b1 _, ⟨fun k hk ho => K k hk ho.2.2.2 (Nat.ne_of_gt ho.1), hne, by simpa [World.setCell] using S1⟩, ⟨?_, (K _ ls (Ne.symm t2) (Ne.symm n1)).trans h.hs, ⟨outv, (K _ lo (Ne.symm t3) (Ne.symm n3)).trans h1, h2, fun j u m hu hm => ?_⟩, ?_, h.ne, ⟨fun he => hne _ lw (Ne.symm t1) he.symm, fun he => hne _ ls (Ne.symm t2) he.symm, fun he => hne _ lo (Ne.symm t3) he.symm⟩, h.ls, h.lo, h.hn⟩⟩
 ·rw [block_set hw1 7]
  rfl
 ·have := (Rd.slice rdTry).bound (h3 j u m hu hm)
  exact (Rd.slice rdTry).mono (fun k hk => ⟨hk.1.1, hk.1.2.1, hk.1.2.2.1, hne k hk.2 hk.1.2.2.2⟩) ((Rd.slice rdTry).move (fun k hk _ => K k hk.2 hk.1.2.2.2 (Nat.ne_of_gt hk.1.1)) this)
 ·obtain ⟨cells, o1, o2⟩ := ho.ex
  have ho' : Own Rd.int 3 (fun _ => False) w1 base v1 (st.todo ++ [(i : Int)]) := ⟨cells, o1, fun j x hj => o2 j x hj⟩
  refine ho'.move (fun k hk hlt => ?_)
  rcases hk with hk | hk
  ·exact hk.elim
  ·refine Below.heap_setCell _ _ _ _ ?_
   rintro rfl
   exact hne _ lw (Ne.symm t1) hk.symm
end Go.Proofs.YtkonkblfckhcbaaGreatDoor
namespace Go.Proofs.YtkonkblfckhcbaaGreatDoor
set_option linter.unusedVariables false
set_option linter.unusedSimpArgs false
open Go.RowKit

set_option maxRecDepth 100000 in
set_option maxHeartbeats 8000000 in
theorem come_bad (w : World) (base : Nat) (f : Wf) (vt : Value) (st : St) (h : WS w base f vt st) (at_ : Int) (A : Option Addr) (m c : Nat) (hb : (f.n : Int) ≤ at_ ∨ 20 < m) :
  Calls Tryz.prog 164 #[.pointer (some ⟨f.wb, 0, none⟩), .int .i64 at_, .slice A m c] w fun e w' => e = .returned (.tuple #[]) ∧ Below base w w' ∧ ∃ vt', Kept f w w' vt vt' ∧ WS w' base f vt' { st with bad := true } := by
 have e4 : w.cell? ⟨f.wb, 4, none⟩ = some (.slice f.A5 f.n f.c5) := cell_at h.hw 4 rfl
 have e8 : w.cell? ⟨f.wb, 8, none⟩ = some (.bool st.bad) := cell_at h.hw 8 rfl
 have fr : w.frozen? ⟨f.wb, 8, none⟩ = false := free_at h.hw 8
 have R := Lib.hid (And.intro (h.below 8 (.bool true)) h.setBad)
 clear h
 by_cases hn : (f.n : Int) ≤ at_
 ·go_enter Tryz.func164, Tryz.ntmps164
  go_wp2_with fail
  go_end0
  exact ⟨rfl, R.out.1, vt, Kept.wbset f w 8 _ vt, R.out.2⟩
 ·have hm : 20 < m := by omega
  go_enter Tryz.func164, Tryz.ntmps164
  go_wp2_with fail
  go_end0
  exact ⟨rfl, R.out.1, vt, Kept.wbset f w 8 _ vt, R.out.2⟩

set_option maxRecDepth 100000 in
set_option maxHeartbeats 8000000 in
theorem come_new (w : World) (base : Nat) (hbase : base ≤ w.heap.size) (f : Wf) (vt : Value) (st : St) (h : WS w base f vt st) (at_ : Nat) (v : Value) (l : List Tr) (hl : SlK rdTry (f.ok vt) w l v) (hi : at_ < f.n) (h20 : l.length ≤ 20) (hs : st.seen[at_]? = some false) (hlen : st.todo.length ≤ 1000) :
  Calls Tryz.prog 164 #[.pointer (some ⟨f.wb, 0, none⟩), .int .i64 at_, v] w fun e w' => e = .returned (.tuple #[]) ∧ Below base w w' ∧ ∃ vt', Kept f w w' vt vt' ∧ WS w' base f vt' { st with seen := st.seen.set at_ true, out := st.out.set at_ l, todo := st.todo ++ [(at_ : Int)] } := by
 obtain ⟨M, MB, MK⟩ := h.mark at_ hi v l hl
 obtain ⟨v1, w1, hr, hw1, PB, PK, P⟩ := M.push at_ hi hlen (Nat.le_trans hbase MB.size)
 obtain ⟨A1, q0, q1, hv1⟩ : ∃ A1 q0 q1, v1 = .slice A1 q0 q1 := by
  obtain ⟨A1, q1, hv1, _⟩ := P.own.reads (by decide)
  injection hv1 with hv1
  exact ⟨_, _, _, hv1⟩
 subst hv1
 have HP := Lib.hid (And.intro (MB.trans PB) (And.intro (MK.trans PK) P))
 have e7' : (((w.setCell ⟨f.sb, at_, none⟩ (.bool true)).setCell ⟨f.ob, at_, none⟩ v).drew).cell? ⟨f.wb, 7, none⟩ = some vt := cell_at M.hw 7 rfl
 have lw : f.wb < (((w.setCell ⟨f.sb, at_, none⟩ (.bool true)).setCell ⟨f.ob, at_, none⟩ v).drew).heap.size := (Array.getElem?_eq_some_iff.1 M.hw).1
 have x7 : w1.cell? ⟨f.wb, 7, none⟩ = some vt := cell_at hw1 7 rfl
 have xf : w1.frozen? ⟨f.wb, 7, none⟩ = false := free_at hw1 7
 clear hw1 M MB PB P MK PK
 obtain ⟨W1, hW1⟩ : ∃ W1, W1 = ((w.setCell ⟨f.sb, at_, none⟩ (.bool true)).setCell ⟨f.ob, at_, none⟩ v).drew := ⟨_, rfl⟩
 rw [← hW1] at hr e7' lw
 obtain ⟨A, c, hv, l1, l2, l3, hC⟩ := hl
 injection hv with hv
 subst hv
 have e4 : w.cell? ⟨f.wb, 4, none⟩ = some (.slice f.A5 f.n f.c5) := cell_at h.hw 4 rfl
 have e5 : w.cell? ⟨f.wb, 5, none⟩ = some (.slice (some ⟨f.sb, 0, none⟩) f.n f.n) := cell_at h.hw 5 rfl
 have e6 : w.cell? ⟨f.wb, 6, none⟩ = some (.slice (some ⟨f.ob, 0, none⟩) f.n f.n) := cell_at h.hw 6 rfl
 have frs := free_at h.hs at_
 have es : w.cell? ⟨f.sb, at_, none⟩ = some (.bool false) := cell_at h.hs at_ (by simp [hs])
 obtain ⟨outv, o1, o2, o3⟩ := h.ho
 have fro := free_at o1 at_
 obtain ⟨u0, hu0⟩ : ∃ u0, outv[at_]? = some u0 := ⟨_, List.getElem?_eq_getElem (by omega)⟩
 have eo : w.cell? ⟨f.ob, at_, none⟩ = some u0 := cell_at o1 at_ (by simpa using hu0)
 have es' : ∀ u, (w.setCell ⟨f.ob, at_, none⟩ u).cell? ⟨f.sb, at_, none⟩ = some (.bool false) := fun u => by rw [World.cell?_setCell_other _ _ _ _ (by intro hq; injection hq with hq; exact h.ne.2.1 (by first | exact hq | exact hq.symm))]; exact es
 have eo' : ∀ u, (w.setCell ⟨f.sb, at_, none⟩ u).cell? ⟨f.ob, at_, none⟩ = some u0 := fun u => by rw [World.cell?_setCell_other _ _ _ _ (by intro hq; injection hq with hq; exact h.ne.2.1 (by first | exact hq | exact hq.symm))]; exact eo
 have hn := h.hn
 have hb1 : (at_ : Int) < (f.n : Int) := by omega
 clear h o1 o2 o3 hu0 hC hs l3
 go_enter Tryz.func164, Tryz.ntmps164
 go_wp2_with fail
 go_region
 rw [← hW1]
 clear hW1 es' eo' es eo frs fro e4 e5 e6
 go_wp2_with (at_builtin; refine wpList_append_eq rfl _ _ _ rfl _ _ rfl rfl hr ?_)
 go_end0
 exact ⟨rfl, HP.out.1, _, HP.out.2.1, HP.out.2.2⟩

set_option maxRecDepth 100000 in
set_option maxHeartbeats 8000000 in
theorem come_old (w : World) (base : Nat) (hbase : base ≤ w.heap.size) (f : Wf) (vt : Value) (st : St) (h : WS w base f vt st) (at_ : Nat) (v : Value) (l : List Tr) (hl : SlK rdTry (f.ok vt) w l v) (hi : at_ < f.n) (h20 : l.length ≤ 20) (hs : st.seen[at_]? = some true) :
  Calls Tryz.prog 164 #[.pointer (some ⟨f.wb, 0, none⟩), .int .i64 at_, v] w fun e w' => e = .returned (.tuple #[]) ∧ Below base w w' ∧ ∃ vt', Kept f w w' vt vt' ∧ WS w' base f vt' (if st.out[at_]? = some l then st else { st with bad := true }) := by
 obtain ⟨outv, o1, o2, o3⟩ := h.ho
 obtain ⟨m, hm⟩ : ∃ m, st.out[at_]? = some m := ⟨_, List.getElem?_eq_getElem (by rw [h.lo]; exact hi)⟩
 obtain ⟨u0, hu0⟩ : ∃ u0, outv[at_]? = some u0 := ⟨_, List.getElem?_eq_getElem (by omega)⟩
 obtain ⟨A', c', hv', _, _, _, hC'⟩ := o3 at_ u0 m hu0 hm
 injection hv' with hv'
 subst hv'
 obtain ⟨A, c, hv, l1, l2, l3, hC⟩ := hl
 injection hv with hv
 subst hv
 have E := Lib.hid (fun w2 => eqTry_any w2 A' A m.length l.length c' c m l)
 have HE : Hid (Calls Tryz.prog 94 #[.slice A' m.length c', .slice A l.length c] w fun e w' => e = .returned (.bool (decide (m = l))) ∧ Below w.heap.size w w') := Lib.hid (E.out w _ _ hC' hC)
 have e4 : w.cell? ⟨f.wb, 4, none⟩ = some (.slice f.A5 f.n f.c5) := cell_at h.hw 4 rfl
 have e5 : w.cell? ⟨f.wb, 5, none⟩ = some (.slice (some ⟨f.sb, 0, none⟩) f.n f.n) := cell_at h.hw 5 rfl
 have e6 : w.cell? ⟨f.wb, 6, none⟩ = some (.slice (some ⟨f.ob, 0, none⟩) f.n f.n) := cell_at h.hw 6 rfl
 have es : w.cell? ⟨f.sb, at_, none⟩ = some (.bool true) := cell_at h.hs at_ (by simp [hs])
 have eo : w.cell? ⟨f.ob, at_, none⟩ = some (.slice A' m.length c') := cell_at o1 at_ (by simpa using hu0)
 have hn := h.hn
 have hb1 : (at_ : Int) < (f.n : Int) := by omega
 have hlb : f.wb < w.heap.size := (Array.getElem?_eq_some_iff.1 h.hw).1
 have H := Lib.hid h
 have HM := Lib.hid hm
 clear h o1 o2 o3 hu0 hC hs l3 hC' E hm
 by_cases hml : m = l
 ·have hd : decide (m = l) = true := by simpa using hml
  rw [hd] at HE
  have R := Lib.hid (show (if st.out[at_]? = some l then st else { st with bad := true }) = st by rw [HM.out, hml]; simp)
  rw [R.out]
  clear hd hml R
  go_enter Tryz.func164, Tryz.ntmps164
  go_wp2_with fail
  refine (HE.out).mono ?_
  rintro e w1 ⟨rfl, hb⟩
  have HB := Lib.hid hb
  clear hb
  go_wp2_with fail
  go_end0
  exact ⟨rfl, HB.out.mono hbase, vt, Kept.same HB.out, H.out.same (fun k hk => HB.out.block k hk)⟩
 ·have hd : decide (m = l) = false := by simpa using hml
  rw [hd] at HE
  have R := Lib.hid (show (if st.out[at_]? = some l then st else { st with bad := true }) = { st with bad := true } by rw [HM.out]; simp [hml])
  rw [R.out]
  clear hd hml R
  go_enter Tryz.func164, Tryz.ntmps164
  go_wp2_with fail
  refine (HE.out).mono ?_
  rintro e w1 ⟨rfl, hb⟩
  have H1 := H.out.same (fun k hk => hb.block k hk)
  have e8 : w1.cell? ⟨f.wb, 8, none⟩ = some (.bool st.bad) := cell_at H1.hw 8 rfl
  have fr : w1.frozen? ⟨f.wb, 8, none⟩ = false := free_at H1.hw 8
  have HB := Lib.hid (And.intro ((hb.mono hbase).trans (H1.below 8 (.bool true))) (And.intro ((Kept.same (f := f) (vt := vt) hb).trans (Kept.wbset f w1 8 (.bool true) vt)) H1.setBad))
  clear hb H1
  go_wp2_with fail
  go_end0
  exact ⟨rfl, HB.out.1, vt, HB.out.2.1, HB.out.2.2⟩

/-- 'come', whole. -/
theorem come_any (w : World) (base : Nat) (hbase : base ≤ w.heap.size) (f : Wf) (vt : Value) (st : St) (h : WS w base f vt st) (at_ : Int) (h0 : 0 ≤ at_) (v : Value) (l : List Tr) (hl : SlK rdTry (f.ok vt) w l v) (hlen : st.todo.length ≤ 1000) :
  Calls Tryz.prog 164 #[.pointer (some ⟨f.wb, 0, none⟩), .int .i64 at_, v] w fun e w' => e = .returned (.tuple #[]) ∧ Below base w w' ∧ ∃ vt', Kept f w w' vt vt' ∧ WS w' base f vt' (comeF f.n st at_ l) := by
 unfold comeF
 by_cases hb : (f.n : Int) ≤ at_ ∨ 20 < l.length
 ·rw [if_pos hb]
  obtain ⟨A, c, hv, _⟩ := hl
  injection hv with hv
  subst hv
  exact come_bad w base f vt st h at_ A _ c hb
 ·rw [if_neg hb]
  obtain ⟨i, rfl⟩ := Int.eq_ofNat_of_zero_le h0
  have hi : i < f.n := by omega
  obtain ⟨s, hs⟩ : ∃ s, st.seen[i]? = some s := ⟨_, List.getElem?_eq_getElem (by rw [h.ls]; exact hi)⟩
  rw [Int.toNat_natCast]
  cases s with
  | false =>
   rw [if_pos hs]
   exact come_new w base hbase f vt st h i v l hl hi (by omega) hs hlen
  | true =>
   rw [if_neg (by rw [hs]; simp)]
   exact come_old w base hbase f vt st h i v l hl hi (by omega) hs
end Go.Proofs.YtkonkblfckhcbaaGreatDoor
namespace Go.Proofs.YtkonkblfckhcbaaGreatDoor
set_option linter.unusedVariables false
set_option linter.unusedSimpArgs false
open Go.RowKit

def fromF (n : Nat) (code : List Ord) (st : St) (at_ : Nat) : St :=
 match code[at_]?, st.out[at_]? with
 | some i, some l =>
  if i.op = 28 ∨ i.op = 29 then st
  else if i.op = 13 ∨ i.op = 14 then comeF n st i.a l
  else if i.op = 15 then comeF n (comeF n st i.b l) ((at_ : Int) + 1) l
  else if i.op = 30 then comeF n (comeF n st i.b l) ((at_ : Int) + 1) (l ++ [⟨i.a, i.b⟩])
  else if i.op = 31 then (if l = [] then { st with bad := true } else comeF n st ((at_ : Int) + 1) l.dropLast)
  else comeF n st ((at_ : Int) + 1) l
 | _, _ => st
theorem comeF_todo (n : Nat) (st : St) (at_ : Int) (l : List Tr) : (comeF n st at_ l).todo.length ≤ st.todo.length + 1 := by
 unfold comeF
 split
 ·simp
 ·split
  ·simp
  ·split <;> simp


set_option maxRecDepth 100000 in
set_option maxHeartbeats 8000000 in
theorem from_28 (w : World) (base : Nat) (hbase : base ≤ w.heap.size) (f : Wf) (vt : Value) (st : St) (h : WS w base f vt st) (hlen : st.todo.length ≤ 900) (at_ : Nat) (hi : at_ < f.n) (code : List Ord) (hcode : rdOrd.CB base w f.A5 f.n code) (i : Ord) (hci : code[at_]? = some i) (l : List Tr) (hm : st.out[at_]? = some l) (h20 : l.length ≤ 20) (hop : i.op = 28) :
  Calls Tryz.prog 165 #[.pointer (some ⟨f.wb, 0, none⟩), .int .i64 at_] w fun e w' => e = .returned (.tuple #[]) ∧ Below base w w' ∧ ∃ vt', Kept f w w' vt vt' ∧ WS w' base f vt' st := by
 obtain ⟨outv, o1, o2, o3⟩ := h.ho
 obtain ⟨u0, hu0⟩ : ∃ u0, outv[at_]? = some u0 := ⟨_, List.getElem?_eq_getElem (by omega)⟩
 have hsl := o3 at_ u0 l hu0 hm
 obtain ⟨A', c', hv', s1, s2, s3, hC'⟩ := hsl
 injection hv' with hv'
 subst hv'
 obtain ⟨ad, cs, hA5, hadb, hads, ⟨rfl, hii⟩, hc0, hcj⟩ := hcode.elem at_ i hci
 obtain ⟨op, a, b, c, line⟩ := i
 simp only [Ord.cells] at hop hc0 hcj ⊢
 have n28 : (op == 28) = true := by rw [hop]; rfl
 clear hop
 have x0 : w.cell? (ad.add (at_ * 5)) = some (.int .i64 op) := hc0 _ rfl
 have x1 : w.cell? ⟨(ad.add (at_ * 5)).block, (ad.add (at_ * 5)).off + 1, none⟩ = some (.int .i64 a) := hcj 0 _ rfl
 have x2 : w.cell? ⟨(ad.add (at_ * 5)).block, (ad.add (at_ * 5)).off + 2, none⟩ = some (.int .i64 b) := hcj 1 _ rfl
 have x3 : w.cell? ⟨(ad.add (at_ * 5)).block, (ad.add (at_ * 5)).off + 3, none⟩ = some (.int .i64 c) := hcj 2 _ rfl
 have x4 : w.cell? ⟨(ad.add (at_ * 5)).block, (ad.add (at_ * 5)).off + 4, none⟩ = some (.int .i64 line) := hcj 3 _ rfl
 have xb : (ad.add (at_ * 5)).block < w.heap.size := by rw [Rd.block_add]; exact hads
 have e4 : w.cell? ⟨f.wb, 4, none⟩ = some (.slice (some ad) f.n f.c5) := by rw [cell_at h.hw 4 rfl]; simp [hA5]
 have e6 : w.cell? ⟨f.wb, 6, none⟩ = some (.slice (some ⟨f.ob, 0, none⟩) f.n f.n) := cell_at h.hw 6 rfl
 have eo : w.cell? ⟨f.ob, at_, none⟩ = some (.slice A' l.length c') := cell_at o1 at_ (by simpa using hu0)
 have lw : f.wb < w.heap.size := (Array.getElem?_eq_some_iff.1 h.hw).1
 have lo : f.ob < w.heap.size := (Array.getElem?_eq_some_iff.1 o1).1
 have ls : f.sb < w.heap.size := (Array.getElem?_eq_some_iff.1 h.hs).1
 have hn := h.hn
 have hb1 : (at_ : Int) < (f.n : Int) := by omega
 obtain ⟨W1, hW1⟩ : ∃ W1, W1 = (w.alloc (.cells #[.int .i64 op, .int .i64 a, .int .i64 b, .int .i64 c, .int .i64 line] 235)).drew := ⟨_, rfl⟩
 have sz1 : W1.heap.size = w.heap.size + 1 := by rw [hW1]; simp
 have same : Below w.heap.size w W1 := by rw [hW1]; exact ((Below.refl _ _).alloc (Nat.le_refl _) _).drew
 have hWS := h.same (fun k hk => same.block k hk)
 have hok : f.ok vt w.heap.size := ⟨by omega, by omega, by omega, fun he => by have := (h.own.lt _ he.symm).2; omega⟩
 have hK0 : Kept f w W1 vt vt := Kept.same same
 have hL : SlK rdTry (f.ok vt) W1 l (.slice A' l.length c') := hK0.list ⟨A', c', rfl, s1, s2, s3, hC'⟩
 have y0 : W1.cell? ⟨w.heap.size, 0, none⟩ = some (.int .i64 op) := by rw [hW1]; show (w.alloc _).cell? _ = _; exact laid_cell _ _ _ _ rfl
 have y1 : W1.cell? ⟨w.heap.size, 1, none⟩ = some (.int .i64 a) := by rw [hW1]; show (w.alloc _).cell? _ = _; exact laid_cell _ _ _ _ rfl
 have y2 : W1.cell? ⟨w.heap.size, 2, none⟩ = some (.int .i64 b) := by rw [hW1]; show (w.alloc _).cell? _ = _; exact laid_cell _ _ _ _ rfl
 have HCM := Lib.hid (fun (x : Int) (hx : 0 ≤ x) => come_any W1 base (by omega) f vt st hWS x hx _ l hL (by omega))
 have H0 := Lib.hid (And.intro (same.mono hbase) (And.intro hK0 hWS))
 have HL := Lib.hid hL
 have HO := Lib.hid hok
 clear h o1 o2 o3 hu0 hC' hc0 hcj hcode same hWS hK0 hL hok hads hadb hA5 hii
 go_enter Tryz.func165, Tryz.ntmps165
 go_wp2_with fail
 go_region
 rw [← hW1]
 clear hW1 x0 x1 x2 x3 x4 xb e4 e6 eo lo ls
 go_wp2_with fail
 refine bodyPost_ret (results_none rfl _ _ _) rfl ?_
 exact ⟨rfl, H0.out.1, vt, H0.out.2.1, H0.out.2.2⟩


set_option maxRecDepth 100000 in
set_option maxHeartbeats 8000000 in
theorem from_29 (w : World) (base : Nat) (hbase : base ≤ w.heap.size) (f : Wf) (vt : Value) (st : St) (h : WS w base f vt st) (hlen : st.todo.length ≤ 900) (at_ : Nat) (hi : at_ < f.n) (code : List Ord) (hcode : rdOrd.CB base w f.A5 f.n code) (i : Ord) (hci : code[at_]? = some i) (l : List Tr) (hm : st.out[at_]? = some l) (h20 : l.length ≤ 20) (hop : i.op = 29) :
  Calls Tryz.prog 165 #[.pointer (some ⟨f.wb, 0, none⟩), .int .i64 at_] w fun e w' => e = .returned (.tuple #[]) ∧ Below base w w' ∧ ∃ vt', Kept f w w' vt vt' ∧ WS w' base f vt' st := by
 obtain ⟨outv, o1, o2, o3⟩ := h.ho
 obtain ⟨u0, hu0⟩ : ∃ u0, outv[at_]? = some u0 := ⟨_, List.getElem?_eq_getElem (by omega)⟩
 have hsl := o3 at_ u0 l hu0 hm
 obtain ⟨A', c', hv', s1, s2, s3, hC'⟩ := hsl
 injection hv' with hv'
 subst hv'
 obtain ⟨ad, cs, hA5, hadb, hads, ⟨rfl, hii⟩, hc0, hcj⟩ := hcode.elem at_ i hci
 obtain ⟨op, a, b, c, line⟩ := i
 simp only [Ord.cells] at hop hc0 hcj ⊢
 have n28 : (op == 28) = false := by rw [hop]; rfl
 have n29 : (op == 29) = true := by rw [hop]; rfl
 clear hop
 have x0 : w.cell? (ad.add (at_ * 5)) = some (.int .i64 op) := hc0 _ rfl
 have x1 : w.cell? ⟨(ad.add (at_ * 5)).block, (ad.add (at_ * 5)).off + 1, none⟩ = some (.int .i64 a) := hcj 0 _ rfl
 have x2 : w.cell? ⟨(ad.add (at_ * 5)).block, (ad.add (at_ * 5)).off + 2, none⟩ = some (.int .i64 b) := hcj 1 _ rfl
 have x3 : w.cell? ⟨(ad.add (at_ * 5)).block, (ad.add (at_ * 5)).off + 3, none⟩ = some (.int .i64 c) := hcj 2 _ rfl
 have x4 : w.cell? ⟨(ad.add (at_ * 5)).block, (ad.add (at_ * 5)).off + 4, none⟩ = some (.int .i64 line) := hcj 3 _ rfl
 have xb : (ad.add (at_ * 5)).block < w.heap.size := by rw [Rd.block_add]; exact hads
 have e4 : w.cell? ⟨f.wb, 4, none⟩ = some (.slice (some ad) f.n f.c5) := by rw [cell_at h.hw 4 rfl]; simp [hA5]
 have e6 : w.cell? ⟨f.wb, 6, none⟩ = some (.slice (some ⟨f.ob, 0, none⟩) f.n f.n) := cell_at h.hw 6 rfl
 have eo : w.cell? ⟨f.ob, at_, none⟩ = some (.slice A' l.length c') := cell_at o1 at_ (by simpa using hu0)
 have lw : f.wb < w.heap.size := (Array.getElem?_eq_some_iff.1 h.hw).1
 have lo : f.ob < w.heap.size := (Array.getElem?_eq_some_iff.1 o1).1
 have ls : f.sb < w.heap.size := (Array.getElem?_eq_some_iff.1 h.hs).1
 have hn := h.hn
 have hb1 : (at_ : Int) < (f.n : Int) := by omega
 obtain ⟨W1, hW1⟩ : ∃ W1, W1 = (w.alloc (.cells #[.int .i64 op, .int .i64 a, .int .i64 b, .int .i64 c, .int .i64 line] 235)).drew := ⟨_, rfl⟩
 have sz1 : W1.heap.size = w.heap.size + 1 := by rw [hW1]; simp
 have same : Below w.heap.size w W1 := by rw [hW1]; exact ((Below.refl _ _).alloc (Nat.le_refl _) _).drew
 have hWS := h.same (fun k hk => same.block k hk)
 have hok : f.ok vt w.heap.size := ⟨by omega, by omega, by omega, fun he => by have := (h.own.lt _ he.symm).2; omega⟩
 have hK0 : Kept f w W1 vt vt := Kept.same same
 have hL : SlK rdTry (f.ok vt) W1 l (.slice A' l.length c') := hK0.list ⟨A', c', rfl, s1, s2, s3, hC'⟩
 have y0 : W1.cell? ⟨w.heap.size, 0, none⟩ = some (.int .i64 op) := by rw [hW1]; show (w.alloc _).cell? _ = _; exact laid_cell _ _ _ _ rfl
 have y1 : W1.cell? ⟨w.heap.size, 1, none⟩ = some (.int .i64 a) := by rw [hW1]; show (w.alloc _).cell? _ = _; exact laid_cell _ _ _ _ rfl
 have y2 : W1.cell? ⟨w.heap.size, 2, none⟩ = some (.int .i64 b) := by rw [hW1]; show (w.alloc _).cell? _ = _; exact laid_cell _ _ _ _ rfl
 have HCM := Lib.hid (fun (x : Int) (hx : 0 ≤ x) => come_any W1 base (by omega) f vt st hWS x hx _ l hL (by omega))
 have H0 := Lib.hid (And.intro (same.mono hbase) (And.intro hK0 hWS))
 have HL := Lib.hid hL
 have HO := Lib.hid hok
 clear h o1 o2 o3 hu0 hC' hc0 hcj hcode same hWS hK0 hL hok hads hadb hA5 hii
 go_enter Tryz.func165, Tryz.ntmps165
 go_wp2_with fail
 go_region
 rw [← hW1]
 clear hW1 x0 x1 x2 x3 x4 xb e4 e6 eo lo ls
 go_wp2_with fail
 refine bodyPost_ret (results_none rfl _ _ _) rfl ?_
 exact ⟨rfl, H0.out.1, vt, H0.out.2.1, H0.out.2.2⟩


set_option maxRecDepth 100000 in
set_option maxHeartbeats 8000000 in
theorem from_13 (w : World) (base : Nat) (hbase : base ≤ w.heap.size) (f : Wf) (vt : Value) (st : St) (h : WS w base f vt st) (hlen : st.todo.length ≤ 900) (at_ : Nat) (hi : at_ < f.n) (code : List Ord) (hcode : rdOrd.CB base w f.A5 f.n code) (i : Ord) (hci : code[at_]? = some i) (l : List Tr) (hm : st.out[at_]? = some l) (h20 : l.length ≤ 20) (hop : i.op = 13) (hjmp : 0 ≤ i.a) :
  Calls Tryz.prog 165 #[.pointer (some ⟨f.wb, 0, none⟩), .int .i64 at_] w fun e w' => e = .returned (.tuple #[]) ∧ Below base w w' ∧ ∃ vt', Kept f w w' vt vt' ∧ WS w' base f vt' (comeF f.n st i.a l) := by
 obtain ⟨outv, o1, o2, o3⟩ := h.ho
 obtain ⟨u0, hu0⟩ : ∃ u0, outv[at_]? = some u0 := ⟨_, List.getElem?_eq_getElem (by omega)⟩
 have hsl := o3 at_ u0 l hu0 hm
 obtain ⟨A', c', hv', s1, s2, s3, hC'⟩ := hsl
 injection hv' with hv'
 subst hv'
 obtain ⟨ad, cs, hA5, hadb, hads, ⟨rfl, hii⟩, hc0, hcj⟩ := hcode.elem at_ i hci
 obtain ⟨op, a, b, c, line⟩ := i
 simp only [Ord.cells] at hop hjmp hc0 hcj ⊢
 have n28 : (op == 28) = false := by rw [hop]; rfl
 have n29 : (op == 29) = false := by rw [hop]; rfl
 have n13 : (op == 13) = true := by rw [hop]; rfl
 clear hop
 have x0 : w.cell? (ad.add (at_ * 5)) = some (.int .i64 op) := hc0 _ rfl
 have x1 : w.cell? ⟨(ad.add (at_ * 5)).block, (ad.add (at_ * 5)).off + 1, none⟩ = some (.int .i64 a) := hcj 0 _ rfl
 have x2 : w.cell? ⟨(ad.add (at_ * 5)).block, (ad.add (at_ * 5)).off + 2, none⟩ = some (.int .i64 b) := hcj 1 _ rfl
 have x3 : w.cell? ⟨(ad.add (at_ * 5)).block, (ad.add (at_ * 5)).off + 3, none⟩ = some (.int .i64 c) := hcj 2 _ rfl
 have x4 : w.cell? ⟨(ad.add (at_ * 5)).block, (ad.add (at_ * 5)).off + 4, none⟩ = some (.int .i64 line) := hcj 3 _ rfl
 have xb : (ad.add (at_ * 5)).block < w.heap.size := by rw [Rd.block_add]; exact hads
 have e4 : w.cell? ⟨f.wb, 4, none⟩ = some (.slice (some ad) f.n f.c5) := by rw [cell_at h.hw 4 rfl]; simp [hA5]
 have e6 : w.cell? ⟨f.wb, 6, none⟩ = some (.slice (some ⟨f.ob, 0, none⟩) f.n f.n) := cell_at h.hw 6 rfl
 have eo : w.cell? ⟨f.ob, at_, none⟩ = some (.slice A' l.length c') := cell_at o1 at_ (by simpa using hu0)
 have lw : f.wb < w.heap.size := (Array.getElem?_eq_some_iff.1 h.hw).1
 have lo : f.ob < w.heap.size := (Array.getElem?_eq_some_iff.1 o1).1
 have ls : f.sb < w.heap.size := (Array.getElem?_eq_some_iff.1 h.hs).1
 have hn := h.hn
 have hb1 : (at_ : Int) < (f.n : Int) := by omega
 obtain ⟨W1, hW1⟩ : ∃ W1, W1 = (w.alloc (.cells #[.int .i64 op, .int .i64 a, .int .i64 b, .int .i64 c, .int .i64 line] 235)).drew := ⟨_, rfl⟩
 have sz1 : W1.heap.size = w.heap.size + 1 := by rw [hW1]; simp
 have same : Below w.heap.size w W1 := by rw [hW1]; exact ((Below.refl _ _).alloc (Nat.le_refl _) _).drew
 have hWS := h.same (fun k hk => same.block k hk)
 have hok : f.ok vt w.heap.size := ⟨by omega, by omega, by omega, fun he => by have := (h.own.lt _ he.symm).2; omega⟩
 have hK0 : Kept f w W1 vt vt := Kept.same same
 have hL : SlK rdTry (f.ok vt) W1 l (.slice A' l.length c') := hK0.list ⟨A', c', rfl, s1, s2, s3, hC'⟩
 have y0 : W1.cell? ⟨w.heap.size, 0, none⟩ = some (.int .i64 op) := by rw [hW1]; show (w.alloc _).cell? _ = _; exact laid_cell _ _ _ _ rfl
 have y1 : W1.cell? ⟨w.heap.size, 1, none⟩ = some (.int .i64 a) := by rw [hW1]; show (w.alloc _).cell? _ = _; exact laid_cell _ _ _ _ rfl
 have y2 : W1.cell? ⟨w.heap.size, 2, none⟩ = some (.int .i64 b) := by rw [hW1]; show (w.alloc _).cell? _ = _; exact laid_cell _ _ _ _ rfl
 have HCM := Lib.hid (fun (x : Int) (hx : 0 ≤ x) => come_any W1 base (by omega) f vt st hWS x hx _ l hL (by omega))
 have H0 := Lib.hid (And.intro (same.mono hbase) (And.intro hK0 hWS))
 have HL := Lib.hid hL
 have HO := Lib.hid hok
 clear h o1 o2 o3 hu0 hC' hc0 hcj hcode same hWS hK0 hL hok hads hadb hA5 hii
 go_enter Tryz.func165, Tryz.ntmps165
 go_wp2_with fail
 go_region
 rw [← hW1]
 clear hW1 x0 x1 x2 x3 x4 xb e4 e6 eo lo ls
 go_wp2_with fail
 refine (HCM.out a hjmp).mono ?_
 rintro e w2 ⟨rfl, hb, vt2, hk, hws⟩
 have R := Lib.hid (And.intro (H0.out.1.trans hb) (And.intro (H0.out.2.1.trans hk) hws))
 clear hb hk hws
 go_wp2_with fail
 refine bodyPost_ret (results_none rfl _ _ _) rfl ?_
 exact ⟨rfl, R.out.1, vt2, R.out.2.1, R.out.2.2⟩


set_option maxRecDepth 100000 in
set_option maxHeartbeats 8000000 in
theorem from_14 (w : World) (base : Nat) (hbase : base ≤ w.heap.size) (f : Wf) (vt : Value) (st : St) (h : WS w base f vt st) (hlen : st.todo.length ≤ 900) (at_ : Nat) (hi : at_ < f.n) (code : List Ord) (hcode : rdOrd.CB base w f.A5 f.n code) (i : Ord) (hci : code[at_]? = some i) (l : List Tr) (hm : st.out[at_]? = some l) (h20 : l.length ≤ 20) (hop : i.op = 14) (hjmp : 0 ≤ i.a) :
  Calls Tryz.prog 165 #[.pointer (some ⟨f.wb, 0, none⟩), .int .i64 at_] w fun e w' => e = .returned (.tuple #[]) ∧ Below base w w' ∧ ∃ vt', Kept f w w' vt vt' ∧ WS w' base f vt' (comeF f.n st i.a l) := by
 obtain ⟨outv, o1, o2, o3⟩ := h.ho
 obtain ⟨u0, hu0⟩ : ∃ u0, outv[at_]? = some u0 := ⟨_, List.getElem?_eq_getElem (by omega)⟩
 have hsl := o3 at_ u0 l hu0 hm
 obtain ⟨A', c', hv', s1, s2, s3, hC'⟩ := hsl
 injection hv' with hv'
 subst hv'
 obtain ⟨ad, cs, hA5, hadb, hads, ⟨rfl, hii⟩, hc0, hcj⟩ := hcode.elem at_ i hci
 obtain ⟨op, a, b, c, line⟩ := i
 simp only [Ord.cells] at hop hjmp hc0 hcj ⊢
 have n28 : (op == 28) = false := by rw [hop]; rfl
 have n29 : (op == 29) = false := by rw [hop]; rfl
 have n13 : (op == 13) = false := by rw [hop]; rfl
 have n14 : (op == 14) = true := by rw [hop]; rfl
 clear hop
 have x0 : w.cell? (ad.add (at_ * 5)) = some (.int .i64 op) := hc0 _ rfl
 have x1 : w.cell? ⟨(ad.add (at_ * 5)).block, (ad.add (at_ * 5)).off + 1, none⟩ = some (.int .i64 a) := hcj 0 _ rfl
 have x2 : w.cell? ⟨(ad.add (at_ * 5)).block, (ad.add (at_ * 5)).off + 2, none⟩ = some (.int .i64 b) := hcj 1 _ rfl
 have x3 : w.cell? ⟨(ad.add (at_ * 5)).block, (ad.add (at_ * 5)).off + 3, none⟩ = some (.int .i64 c) := hcj 2 _ rfl
 have x4 : w.cell? ⟨(ad.add (at_ * 5)).block, (ad.add (at_ * 5)).off + 4, none⟩ = some (.int .i64 line) := hcj 3 _ rfl
 have xb : (ad.add (at_ * 5)).block < w.heap.size := by rw [Rd.block_add]; exact hads
 have e4 : w.cell? ⟨f.wb, 4, none⟩ = some (.slice (some ad) f.n f.c5) := by rw [cell_at h.hw 4 rfl]; simp [hA5]
 have e6 : w.cell? ⟨f.wb, 6, none⟩ = some (.slice (some ⟨f.ob, 0, none⟩) f.n f.n) := cell_at h.hw 6 rfl
 have eo : w.cell? ⟨f.ob, at_, none⟩ = some (.slice A' l.length c') := cell_at o1 at_ (by simpa using hu0)
 have lw : f.wb < w.heap.size := (Array.getElem?_eq_some_iff.1 h.hw).1
 have lo : f.ob < w.heap.size := (Array.getElem?_eq_some_iff.1 o1).1
 have ls : f.sb < w.heap.size := (Array.getElem?_eq_some_iff.1 h.hs).1
 have hn := h.hn
 have hb1 : (at_ : Int) < (f.n : Int) := by omega
 obtain ⟨W1, hW1⟩ : ∃ W1, W1 = (w.alloc (.cells #[.int .i64 op, .int .i64 a, .int .i64 b, .int .i64 c, .int .i64 line] 235)).drew := ⟨_, rfl⟩
 have sz1 : W1.heap.size = w.heap.size + 1 := by rw [hW1]; simp
 have same : Below w.heap.size w W1 := by rw [hW1]; exact ((Below.refl _ _).alloc (Nat.le_refl _) _).drew
 have hWS := h.same (fun k hk => same.block k hk)
 have hok : f.ok vt w.heap.size := ⟨by omega, by omega, by omega, fun he => by have := (h.own.lt _ he.symm).2; omega⟩
 have hK0 : Kept f w W1 vt vt := Kept.same same
 have hL : SlK rdTry (f.ok vt) W1 l (.slice A' l.length c') := hK0.list ⟨A', c', rfl, s1, s2, s3, hC'⟩
 have y0 : W1.cell? ⟨w.heap.size, 0, none⟩ = some (.int .i64 op) := by rw [hW1]; show (w.alloc _).cell? _ = _; exact laid_cell _ _ _ _ rfl
 have y1 : W1.cell? ⟨w.heap.size, 1, none⟩ = some (.int .i64 a) := by rw [hW1]; show (w.alloc _).cell? _ = _; exact laid_cell _ _ _ _ rfl
 have y2 : W1.cell? ⟨w.heap.size, 2, none⟩ = some (.int .i64 b) := by rw [hW1]; show (w.alloc _).cell? _ = _; exact laid_cell _ _ _ _ rfl
 have HCM := Lib.hid (fun (x : Int) (hx : 0 ≤ x) => come_any W1 base (by omega) f vt st hWS x hx _ l hL (by omega))
 have H0 := Lib.hid (And.intro (same.mono hbase) (And.intro hK0 hWS))
 have HL := Lib.hid hL
 have HO := Lib.hid hok
 clear h o1 o2 o3 hu0 hC' hc0 hcj hcode same hWS hK0 hL hok hads hadb hA5 hii
 go_enter Tryz.func165, Tryz.ntmps165
 go_wp2_with fail
 go_region
 rw [← hW1]
 clear hW1 x0 x1 x2 x3 x4 xb e4 e6 eo lo ls
 go_wp2_with fail
 refine (HCM.out a hjmp).mono ?_
 rintro e w2 ⟨rfl, hb, vt2, hk, hws⟩
 have R := Lib.hid (And.intro (H0.out.1.trans hb) (And.intro (H0.out.2.1.trans hk) hws))
 clear hb hk hws
 go_wp2_with fail
 refine bodyPost_ret (results_none rfl _ _ _) rfl ?_
 exact ⟨rfl, R.out.1, vt2, R.out.2.1, R.out.2.2⟩


set_option maxRecDepth 100000 in
set_option maxHeartbeats 8000000 in
theorem from_15 (w : World) (base : Nat) (hbase : base ≤ w.heap.size) (f : Wf) (vt : Value) (st : St) (h : WS w base f vt st) (hlen : st.todo.length ≤ 900) (at_ : Nat) (hi : at_ < f.n) (code : List Ord) (hcode : rdOrd.CB base w f.A5 f.n code) (i : Ord) (hci : code[at_]? = some i) (l : List Tr) (hm : st.out[at_]? = some l) (h20 : l.length ≤ 20) (hop : i.op = 15) (hjmp : 0 ≤ i.b) :
  Calls Tryz.prog 165 #[.pointer (some ⟨f.wb, 0, none⟩), .int .i64 at_] w fun e w' => e = .returned (.tuple #[]) ∧ Below base w w' ∧ ∃ vt', Kept f w w' vt vt' ∧ WS w' base f vt' (comeF f.n (comeF f.n st i.b l) ((at_ : Int) + 1) l) := by
 obtain ⟨outv, o1, o2, o3⟩ := h.ho
 obtain ⟨u0, hu0⟩ : ∃ u0, outv[at_]? = some u0 := ⟨_, List.getElem?_eq_getElem (by omega)⟩
 have hsl := o3 at_ u0 l hu0 hm
 obtain ⟨A', c', hv', s1, s2, s3, hC'⟩ := hsl
 injection hv' with hv'
 subst hv'
 obtain ⟨ad, cs, hA5, hadb, hads, ⟨rfl, hii⟩, hc0, hcj⟩ := hcode.elem at_ i hci
 obtain ⟨op, a, b, c, line⟩ := i
 simp only [Ord.cells] at hop hjmp hc0 hcj ⊢
 have n28 : (op == 28) = false := by rw [hop]; rfl
 have n29 : (op == 29) = false := by rw [hop]; rfl
 have n13 : (op == 13) = false := by rw [hop]; rfl
 have n14 : (op == 14) = false := by rw [hop]; rfl
 have n15 : (op == 15) = true := by rw [hop]; rfl
 clear hop
 have x0 : w.cell? (ad.add (at_ * 5)) = some (.int .i64 op) := hc0 _ rfl
 have x1 : w.cell? ⟨(ad.add (at_ * 5)).block, (ad.add (at_ * 5)).off + 1, none⟩ = some (.int .i64 a) := hcj 0 _ rfl
 have x2 : w.cell? ⟨(ad.add (at_ * 5)).block, (ad.add (at_ * 5)).off + 2, none⟩ = some (.int .i64 b) := hcj 1 _ rfl
 have x3 : w.cell? ⟨(ad.add (at_ * 5)).block, (ad.add (at_ * 5)).off + 3, none⟩ = some (.int .i64 c) := hcj 2 _ rfl
 have x4 : w.cell? ⟨(ad.add (at_ * 5)).block, (ad.add (at_ * 5)).off + 4, none⟩ = some (.int .i64 line) := hcj 3 _ rfl
 have xb : (ad.add (at_ * 5)).block < w.heap.size := by rw [Rd.block_add]; exact hads
 have e4 : w.cell? ⟨f.wb, 4, none⟩ = some (.slice (some ad) f.n f.c5) := by rw [cell_at h.hw 4 rfl]; simp [hA5]
 have e6 : w.cell? ⟨f.wb, 6, none⟩ = some (.slice (some ⟨f.ob, 0, none⟩) f.n f.n) := cell_at h.hw 6 rfl
 have eo : w.cell? ⟨f.ob, at_, none⟩ = some (.slice A' l.length c') := cell_at o1 at_ (by simpa using hu0)
 have lw : f.wb < w.heap.size := (Array.getElem?_eq_some_iff.1 h.hw).1
 have lo : f.ob < w.heap.size := (Array.getElem?_eq_some_iff.1 o1).1
 have ls : f.sb < w.heap.size := (Array.getElem?_eq_some_iff.1 h.hs).1
 have hn := h.hn
 have hb1 : (at_ : Int) < (f.n : Int) := by omega
 obtain ⟨W1, hW1⟩ : ∃ W1, W1 = (w.alloc (.cells #[.int .i64 op, .int .i64 a, .int .i64 b, .int .i64 c, .int .i64 line] 235)).drew := ⟨_, rfl⟩
 have sz1 : W1.heap.size = w.heap.size + 1 := by rw [hW1]; simp
 have same : Below w.heap.size w W1 := by rw [hW1]; exact ((Below.refl _ _).alloc (Nat.le_refl _) _).drew
 have hWS := h.same (fun k hk => same.block k hk)
 have hok : f.ok vt w.heap.size := ⟨by omega, by omega, by omega, fun he => by have := (h.own.lt _ he.symm).2; omega⟩
 have hK0 : Kept f w W1 vt vt := Kept.same same
 have hL : SlK rdTry (f.ok vt) W1 l (.slice A' l.length c') := hK0.list ⟨A', c', rfl, s1, s2, s3, hC'⟩
 have y0 : W1.cell? ⟨w.heap.size, 0, none⟩ = some (.int .i64 op) := by rw [hW1]; show (w.alloc _).cell? _ = _; exact laid_cell _ _ _ _ rfl
 have y1 : W1.cell? ⟨w.heap.size, 1, none⟩ = some (.int .i64 a) := by rw [hW1]; show (w.alloc _).cell? _ = _; exact laid_cell _ _ _ _ rfl
 have y2 : W1.cell? ⟨w.heap.size, 2, none⟩ = some (.int .i64 b) := by rw [hW1]; show (w.alloc _).cell? _ = _; exact laid_cell _ _ _ _ rfl
 have HCM := Lib.hid (fun (x : Int) (hx : 0 ≤ x) => come_any W1 base (by omega) f vt st hWS x hx _ l hL (by omega))
 have H0 := Lib.hid (And.intro (same.mono hbase) (And.intro hK0 hWS))
 have HL := Lib.hid hL
 have HO := Lib.hid hok
 clear h o1 o2 o3 hu0 hC' hc0 hcj hcode same hWS hK0 hL hok hads hadb hA5 hii
 go_enter Tryz.func165, Tryz.ntmps165
 go_wp2_with fail
 go_region
 rw [← hW1]
 clear hW1 x0 x1 x2 x3 x4 xb e4 e6 eo lo ls
 go_wp2_with fail
 refine (HCM.out b hjmp).mono ?_
 rintro e w2 ⟨rfl, hb, vt2, hk, hws⟩
 have hsz : w.heap.size + 1 ≤ w2.heap.size := by have := hk.size; omega
 have HC2 := Lib.hid (come_any w2 base (by omega) f vt2 _ hws ((at_ : Int) + 1) (by omega) _ l (hk.list HL.out) (by have := comeF_todo f.n st b l; omega))
 have R := Lib.hid (And.intro (H0.out.1.trans hb) (H0.out.2.1.trans hk))
 clear hb hk hws
 go_wp2_with fail
 refine (HC2.out).mono ?_
 rintro e w3 ⟨rfl, hb, vt3, hk, hws⟩
 have R2 := Lib.hid (And.intro (R.out.1.trans hb) (And.intro (R.out.2.trans hk) hws))
 clear hb hk hws
 go_wp2_with fail
 go_end0
 exact ⟨rfl, R2.out.1, vt3, R2.out.2.1, R2.out.2.2⟩


set_option maxRecDepth 100000 in
set_option maxHeartbeats 8000000 in
theorem from_else (w : World) (base : Nat) (hbase : base ≤ w.heap.size) (f : Wf) (vt : Value) (st : St) (h : WS w base f vt st) (hlen : st.todo.length ≤ 900) (at_ : Nat) (hi : at_ < f.n) (code : List Ord) (hcode : rdOrd.CB base w f.A5 f.n code) (i : Ord) (hci : code[at_]? = some i) (l : List Tr) (hm : st.out[at_]? = some l) (h20 : l.length ≤ 20) (hop : (i.op == 28) = false ∧ (i.op == 29) = false ∧ (i.op == 13) = false ∧ (i.op == 14) = false ∧ (i.op == 15) = false ∧ (i.op == 30) = false ∧ (i.op == 31) = false) :
  Calls Tryz.prog 165 #[.pointer (some ⟨f.wb, 0, none⟩), .int .i64 at_] w fun e w' => e = .returned (.tuple #[]) ∧ Below base w w' ∧ ∃ vt', Kept f w w' vt vt' ∧ WS w' base f vt' (comeF f.n st ((at_ : Int) + 1) l) := by
 obtain ⟨outv, o1, o2, o3⟩ := h.ho
 obtain ⟨u0, hu0⟩ : ∃ u0, outv[at_]? = some u0 := ⟨_, List.getElem?_eq_getElem (by omega)⟩
 have hsl := o3 at_ u0 l hu0 hm
 obtain ⟨A', c', hv', s1, s2, s3, hC'⟩ := hsl
 injection hv' with hv'
 subst hv'
 obtain ⟨ad, cs, hA5, hadb, hads, ⟨rfl, hii⟩, hc0, hcj⟩ := hcode.elem at_ i hci
 obtain ⟨op, a, b, c, line⟩ := i
 simp only [Ord.cells] at hop hc0 hcj ⊢
 obtain ⟨n28, n29, n13, n14, n15, n30, n31⟩ := hop
 have x0 : w.cell? (ad.add (at_ * 5)) = some (.int .i64 op) := hc0 _ rfl
 have x1 : w.cell? ⟨(ad.add (at_ * 5)).block, (ad.add (at_ * 5)).off + 1, none⟩ = some (.int .i64 a) := hcj 0 _ rfl
 have x2 : w.cell? ⟨(ad.add (at_ * 5)).block, (ad.add (at_ * 5)).off + 2, none⟩ = some (.int .i64 b) := hcj 1 _ rfl
 have x3 : w.cell? ⟨(ad.add (at_ * 5)).block, (ad.add (at_ * 5)).off + 3, none⟩ = some (.int .i64 c) := hcj 2 _ rfl
 have x4 : w.cell? ⟨(ad.add (at_ * 5)).block, (ad.add (at_ * 5)).off + 4, none⟩ = some (.int .i64 line) := hcj 3 _ rfl
 have xb : (ad.add (at_ * 5)).block < w.heap.size := by rw [Rd.block_add]; exact hads
 have e4 : w.cell? ⟨f.wb, 4, none⟩ = some (.slice (some ad) f.n f.c5) := by rw [cell_at h.hw 4 rfl]; simp [hA5]
 have e6 : w.cell? ⟨f.wb, 6, none⟩ = some (.slice (some ⟨f.ob, 0, none⟩) f.n f.n) := cell_at h.hw 6 rfl
 have eo : w.cell? ⟨f.ob, at_, none⟩ = some (.slice A' l.length c') := cell_at o1 at_ (by simpa using hu0)
 have lw : f.wb < w.heap.size := (Array.getElem?_eq_some_iff.1 h.hw).1
 have lo : f.ob < w.heap.size := (Array.getElem?_eq_some_iff.1 o1).1
 have ls : f.sb < w.heap.size := (Array.getElem?_eq_some_iff.1 h.hs).1
 have hn := h.hn
 have hb1 : (at_ : Int) < (f.n : Int) := by omega
 obtain ⟨W1, hW1⟩ : ∃ W1, W1 = (w.alloc (.cells #[.int .i64 op, .int .i64 a, .int .i64 b, .int .i64 c, .int .i64 line] 235)).drew := ⟨_, rfl⟩
 have sz1 : W1.heap.size = w.heap.size + 1 := by rw [hW1]; simp
 have same : Below w.heap.size w W1 := by rw [hW1]; exact ((Below.refl _ _).alloc (Nat.le_refl _) _).drew
 have hWS := h.same (fun k hk => same.block k hk)
 have hok : f.ok vt w.heap.size := ⟨by omega, by omega, by omega, fun he => by have := (h.own.lt _ he.symm).2; omega⟩
 have hK0 : Kept f w W1 vt vt := Kept.same same
 have hL : SlK rdTry (f.ok vt) W1 l (.slice A' l.length c') := hK0.list ⟨A', c', rfl, s1, s2, s3, hC'⟩
 have y0 : W1.cell? ⟨w.heap.size, 0, none⟩ = some (.int .i64 op) := by rw [hW1]; show (w.alloc _).cell? _ = _; exact laid_cell _ _ _ _ rfl
 have y1 : W1.cell? ⟨w.heap.size, 1, none⟩ = some (.int .i64 a) := by rw [hW1]; show (w.alloc _).cell? _ = _; exact laid_cell _ _ _ _ rfl
 have y2 : W1.cell? ⟨w.heap.size, 2, none⟩ = some (.int .i64 b) := by rw [hW1]; show (w.alloc _).cell? _ = _; exact laid_cell _ _ _ _ rfl
 have HCM := Lib.hid (fun (x : Int) (hx : 0 ≤ x) => come_any W1 base (by omega) f vt st hWS x hx _ l hL (by omega))
 have H0 := Lib.hid (And.intro (same.mono hbase) (And.intro hK0 hWS))
 have HL := Lib.hid hL
 have HO := Lib.hid hok
 clear h o1 o2 o3 hu0 hC' hc0 hcj hcode same hWS hK0 hL hok hads hadb hA5 hii
 go_enter Tryz.func165, Tryz.ntmps165
 go_wp2_with fail
 go_region
 rw [← hW1]
 clear hW1 x0 x1 x2 x3 x4 xb e4 e6 eo lo ls
 go_wp2_with fail
 refine (HCM.out ((at_ : Int) + 1) (by omega)).mono ?_
 rintro e w2 ⟨rfl, hb, vt2, hk, hws⟩
 have R := Lib.hid (And.intro (H0.out.1.trans hb) (And.intro (H0.out.2.1.trans hk) hws))
 clear hb hk hws
 go_wp2_with fail
 go_end0
 exact ⟨rfl, R.out.1, vt2, R.out.2.1, R.out.2.2⟩


set_option maxRecDepth 100000 in
set_option maxHeartbeats 8000000 in
theorem from_31a (w : World) (base : Nat) (hbase : base ≤ w.heap.size) (f : Wf) (vt : Value) (st : St) (h : WS w base f vt st) (hlen : st.todo.length ≤ 900) (at_ : Nat) (hi : at_ < f.n) (code : List Ord) (hcode : rdOrd.CB base w f.A5 f.n code) (i : Ord) (hci : code[at_]? = some i) (l : List Tr) (hm : st.out[at_]? = some l) (h20 : l.length ≤ 20) (hop : i.op = 31) (hl0 : l = []) :
  Calls Tryz.prog 165 #[.pointer (some ⟨f.wb, 0, none⟩), .int .i64 at_] w fun e w' => e = .returned (.tuple #[]) ∧ Below base w w' ∧ ∃ vt', Kept f w w' vt vt' ∧ WS w' base f vt' { st with bad := true } := by
 obtain ⟨outv, o1, o2, o3⟩ := h.ho
 obtain ⟨u0, hu0⟩ : ∃ u0, outv[at_]? = some u0 := ⟨_, List.getElem?_eq_getElem (by omega)⟩
 have hsl := o3 at_ u0 l hu0 hm
 obtain ⟨A', c', hv', s1, s2, s3, hC'⟩ := hsl
 injection hv' with hv'
 subst hv'
 obtain ⟨ad, cs, hA5, hadb, hads, ⟨rfl, hii⟩, hc0, hcj⟩ := hcode.elem at_ i hci
 obtain ⟨op, a, b, c, line⟩ := i
 simp only [Ord.cells] at hop hl0 hc0 hcj ⊢
 have n28 : (op == 28) = false := by rw [hop]; rfl
 have n29 : (op == 29) = false := by rw [hop]; rfl
 have n13 : (op == 13) = false := by rw [hop]; rfl
 have n14 : (op == 14) = false := by rw [hop]; rfl
 have n15 : (op == 15) = false := by rw [hop]; rfl
 have n30 : (op == 30) = false := by rw [hop]; rfl
 have n31 : (op == 31) = true := by rw [hop]; rfl
 clear hop
 have hl1 : ((l.length : Int) == 0) = true := by rw [hl0]; rfl
 have x0 : w.cell? (ad.add (at_ * 5)) = some (.int .i64 op) := hc0 _ rfl
 have x1 : w.cell? ⟨(ad.add (at_ * 5)).block, (ad.add (at_ * 5)).off + 1, none⟩ = some (.int .i64 a) := hcj 0 _ rfl
 have x2 : w.cell? ⟨(ad.add (at_ * 5)).block, (ad.add (at_ * 5)).off + 2, none⟩ = some (.int .i64 b) := hcj 1 _ rfl
 have x3 : w.cell? ⟨(ad.add (at_ * 5)).block, (ad.add (at_ * 5)).off + 3, none⟩ = some (.int .i64 c) := hcj 2 _ rfl
 have x4 : w.cell? ⟨(ad.add (at_ * 5)).block, (ad.add (at_ * 5)).off + 4, none⟩ = some (.int .i64 line) := hcj 3 _ rfl
 have xb : (ad.add (at_ * 5)).block < w.heap.size := by rw [Rd.block_add]; exact hads
 have e4 : w.cell? ⟨f.wb, 4, none⟩ = some (.slice (some ad) f.n f.c5) := by rw [cell_at h.hw 4 rfl]; simp [hA5]
 have e6 : w.cell? ⟨f.wb, 6, none⟩ = some (.slice (some ⟨f.ob, 0, none⟩) f.n f.n) := cell_at h.hw 6 rfl
 have eo : w.cell? ⟨f.ob, at_, none⟩ = some (.slice A' l.length c') := cell_at o1 at_ (by simpa using hu0)
 have lw : f.wb < w.heap.size := (Array.getElem?_eq_some_iff.1 h.hw).1
 have lo : f.ob < w.heap.size := (Array.getElem?_eq_some_iff.1 o1).1
 have ls : f.sb < w.heap.size := (Array.getElem?_eq_some_iff.1 h.hs).1
 have hn := h.hn
 have hb1 : (at_ : Int) < (f.n : Int) := by omega
 obtain ⟨W1, hW1⟩ : ∃ W1, W1 = (w.alloc (.cells #[.int .i64 op, .int .i64 a, .int .i64 b, .int .i64 c, .int .i64 line] 235)).drew := ⟨_, rfl⟩
 have sz1 : W1.heap.size = w.heap.size + 1 := by rw [hW1]; simp
 have same : Below w.heap.size w W1 := by rw [hW1]; exact ((Below.refl _ _).alloc (Nat.le_refl _) _).drew
 have hWS := h.same (fun k hk => same.block k hk)
 have hok : f.ok vt w.heap.size := ⟨by omega, by omega, by omega, fun he => by have := (h.own.lt _ he.symm).2; omega⟩
 have hK0 : Kept f w W1 vt vt := Kept.same same
 have hL : SlK rdTry (f.ok vt) W1 l (.slice A' l.length c') := hK0.list ⟨A', c', rfl, s1, s2, s3, hC'⟩
 have y0 : W1.cell? ⟨w.heap.size, 0, none⟩ = some (.int .i64 op) := by rw [hW1]; show (w.alloc _).cell? _ = _; exact laid_cell _ _ _ _ rfl
 have y1 : W1.cell? ⟨w.heap.size, 1, none⟩ = some (.int .i64 a) := by rw [hW1]; show (w.alloc _).cell? _ = _; exact laid_cell _ _ _ _ rfl
 have y2 : W1.cell? ⟨w.heap.size, 2, none⟩ = some (.int .i64 b) := by rw [hW1]; show (w.alloc _).cell? _ = _; exact laid_cell _ _ _ _ rfl
 have HCM := Lib.hid (fun (x : Int) (hx : 0 ≤ x) => come_any W1 base (by omega) f vt st hWS x hx _ l hL (by omega))
 have H0 := Lib.hid (And.intro (same.mono hbase) (And.intro hK0 hWS))
 have HL := Lib.hid hL
 have HO := Lib.hid hok
 clear h o1 o2 o3 hu0 hC' hc0 hcj hcode same hWS hK0 hL hok hads hadb hA5 hii
 go_enter Tryz.func165, Tryz.ntmps165
 go_wp2_with fail
 go_region
 rw [← hW1]
 clear hW1 x0 x1 x2 x3 x4 xb e4 e6 eo lo ls
 have e8 : W1.cell? ⟨f.wb, 8, none⟩ = some (.bool st.bad) := cell_at H0.out.2.2.hw 8 rfl
 have fr : W1.frozen? ⟨f.wb, 8, none⟩ = false := free_at H0.out.2.2.hw 8
 go_wp2_with fail
 refine bodyPost_ret (results_none rfl _ _ _) rfl ?_
 exact ⟨rfl, H0.out.1.trans (H0.out.2.2.below 8 _), vt, H0.out.2.1.trans (Kept.wbset f W1 8 _ vt), H0.out.2.2.setBad⟩


set_option maxRecDepth 100000 in
set_option maxHeartbeats 8000000 in
theorem from_31b (w : World) (base : Nat) (hbase : base ≤ w.heap.size) (f : Wf) (vt : Value) (st : St) (h : WS w base f vt st) (hlen : st.todo.length ≤ 900) (at_ : Nat) (hi : at_ < f.n) (code : List Ord) (hcode : rdOrd.CB base w f.A5 f.n code) (i : Ord) (hci : code[at_]? = some i) (l : List Tr) (hm : st.out[at_]? = some l) (h20 : l.length ≤ 20) (hop : i.op = 31) (hl0 : l ≠ []) :
  Calls Tryz.prog 165 #[.pointer (some ⟨f.wb, 0, none⟩), .int .i64 at_] w fun e w' => e = .returned (.tuple #[]) ∧ Below base w w' ∧ ∃ vt', Kept f w w' vt vt' ∧ WS w' base f vt' (comeF f.n st ((at_ : Int) + 1) l.dropLast) := by
 obtain ⟨outv, o1, o2, o3⟩ := h.ho
 obtain ⟨u0, hu0⟩ : ∃ u0, outv[at_]? = some u0 := ⟨_, List.getElem?_eq_getElem (by omega)⟩
 have hsl := o3 at_ u0 l hu0 hm
 obtain ⟨A', c', hv', s1, s2, s3, hC'⟩ := hsl
 injection hv' with hv'
 subst hv'
 obtain ⟨ad, cs, hA5, hadb, hads, ⟨rfl, hii⟩, hc0, hcj⟩ := hcode.elem at_ i hci
 obtain ⟨op, a, b, c, line⟩ := i
 simp only [Ord.cells] at hop hl0 hc0 hcj ⊢
 have n28 : (op == 28) = false := by rw [hop]; rfl
 have n29 : (op == 29) = false := by rw [hop]; rfl
 have n13 : (op == 13) = false := by rw [hop]; rfl
 have n14 : (op == 14) = false := by rw [hop]; rfl
 have n15 : (op == 15) = false := by rw [hop]; rfl
 have n30 : (op == 30) = false := by rw [hop]; rfl
 have n31 : (op == 31) = true := by rw [hop]; rfl
 clear hop
 have hlp : 0 < l.length := List.length_pos_iff.2 hl0
 have hl1 : ((l.length : Int) == 0) = false := by simp; exact hl0
 have hl2 : (l.length : Int) ≤ 20 := by omega
 have x0 : w.cell? (ad.add (at_ * 5)) = some (.int .i64 op) := hc0 _ rfl
 have x1 : w.cell? ⟨(ad.add (at_ * 5)).block, (ad.add (at_ * 5)).off + 1, none⟩ = some (.int .i64 a) := hcj 0 _ rfl
 have x2 : w.cell? ⟨(ad.add (at_ * 5)).block, (ad.add (at_ * 5)).off + 2, none⟩ = some (.int .i64 b) := hcj 1 _ rfl
 have x3 : w.cell? ⟨(ad.add (at_ * 5)).block, (ad.add (at_ * 5)).off + 3, none⟩ = some (.int .i64 c) := hcj 2 _ rfl
 have x4 : w.cell? ⟨(ad.add (at_ * 5)).block, (ad.add (at_ * 5)).off + 4, none⟩ = some (.int .i64 line) := hcj 3 _ rfl
 have xb : (ad.add (at_ * 5)).block < w.heap.size := by rw [Rd.block_add]; exact hads
 have e4 : w.cell? ⟨f.wb, 4, none⟩ = some (.slice (some ad) f.n f.c5) := by rw [cell_at h.hw 4 rfl]; simp [hA5]
 have e6 : w.cell? ⟨f.wb, 6, none⟩ = some (.slice (some ⟨f.ob, 0, none⟩) f.n f.n) := cell_at h.hw 6 rfl
 have eo : w.cell? ⟨f.ob, at_, none⟩ = some (.slice A' l.length c') := cell_at o1 at_ (by simpa using hu0)
 have lw : f.wb < w.heap.size := (Array.getElem?_eq_some_iff.1 h.hw).1
 have lo : f.ob < w.heap.size := (Array.getElem?_eq_some_iff.1 o1).1
 have ls : f.sb < w.heap.size := (Array.getElem?_eq_some_iff.1 h.hs).1
 have hn := h.hn
 have hb1 : (at_ : Int) < (f.n : Int) := by omega
 obtain ⟨W1, hW1⟩ : ∃ W1, W1 = (w.alloc (.cells #[.int .i64 op, .int .i64 a, .int .i64 b, .int .i64 c, .int .i64 line] 235)).drew := ⟨_, rfl⟩
 have sz1 : W1.heap.size = w.heap.size + 1 := by rw [hW1]; simp
 have same : Below w.heap.size w W1 := by rw [hW1]; exact ((Below.refl _ _).alloc (Nat.le_refl _) _).drew
 have hWS := h.same (fun k hk => same.block k hk)
 have hok : f.ok vt w.heap.size := ⟨by omega, by omega, by omega, fun he => by have := (h.own.lt _ he.symm).2; omega⟩
 have hK0 : Kept f w W1 vt vt := Kept.same same
 have hL : SlK rdTry (f.ok vt) W1 l (.slice A' l.length c') := hK0.list ⟨A', c', rfl, s1, s2, s3, hC'⟩
 have y0 : W1.cell? ⟨w.heap.size, 0, none⟩ = some (.int .i64 op) := by rw [hW1]; show (w.alloc _).cell? _ = _; exact laid_cell _ _ _ _ rfl
 have y1 : W1.cell? ⟨w.heap.size, 1, none⟩ = some (.int .i64 a) := by rw [hW1]; show (w.alloc _).cell? _ = _; exact laid_cell _ _ _ _ rfl
 have y2 : W1.cell? ⟨w.heap.size, 2, none⟩ = some (.int .i64 b) := by rw [hW1]; show (w.alloc _).cell? _ = _; exact laid_cell _ _ _ _ rfl
 have HCM := Lib.hid (fun (x : Int) (hx : 0 ≤ x) => come_any W1 base (by omega) f vt st hWS x hx _ l hL (by omega))
 have H0 := Lib.hid (And.intro (same.mono hbase) (And.intro hK0 hWS))
 have HL := Lib.hid hL
 have HO := Lib.hid hok
 clear h o1 o2 o3 hu0 hC' hc0 hcj hcode same hWS hK0 hL hok hads hadb hA5 hii
 go_enter Tryz.func165, Tryz.ntmps165
 go_wp2_with fail
 go_region
 rw [← hW1]
 clear hW1 x0 x1 x2 x3 x4 xb e4 e6 eo lo ls
 have HC3 : Hid (Calls Tryz.prog 164 #[.pointer (some ⟨f.wb, 0, none⟩), .int .i64 ((at_ : Int) + 1), .slice A' (l.length - 1) c'] W1 fun e w' => e = .returned (.tuple #[]) ∧ Below base W1 w' ∧ ∃ vt', Kept f W1 w' vt vt' ∧ WS w' base f vt' (comeF f.n st ((at_ : Int) + 1) l.dropLast)) := Lib.hid (come_any W1 base (by omega) f vt st H0.out.2.2 _ (by omega) _ l.dropLast (by
  obtain ⟨A1, c1, hq, g1, g2, g3, gC⟩ := HL.out
  injection hq with hq
  injection hq with q1 q2 q3
  subst q1 q3
  have hdl : l.dropLast.length = l.length - 1 := List.length_dropLast
  refine ⟨_, _, by rw [hdl], by rw [hdl]; omega, g2, g3, ?_⟩
  have := gC.take (l.length - 1) (by omega)
  rw [hdl, List.dropLast_eq_take]
  exact this) (by omega))
 go_wp2_with fail
 refine (HC3.out).mono ?_
 rintro e w2 ⟨rfl, hb, vt2, hk, hws⟩
 have R := Lib.hid (And.intro (H0.out.1.trans hb) (And.intro (H0.out.2.1.trans hk) hws))
 clear hb hk hws
 go_wp2_with fail
 go_end0
 exact ⟨rfl, R.out.1, vt2, R.out.2.1, R.out.2.2⟩

end Go.Proofs.YtkonkblfckhcbaaGreatDoor
namespace Go.Proofs.YtkonkblfckhcbaaGreatDoor
set_option linter.unusedVariables false
set_option linter.unusedSimpArgs false
open Go.RowKit

/-- At the operation in a region: an append whose run is known. -/
theorem wp_append_eq {P : Program} {o : Oper} {a : Act} {K : Act → World → Prop} {Q : Exit → Act → World → Prop} {w w1 : World} {v1 : Value} (s x : Operand) (t : TypeId)
  (ho : o.op = .call { callee := .builtin .append, args := #[s, x], argTypes := #[t, t] }) (v y : Value) (hs : a.eval s = v) (hx : a.eval x = y) (hr : (Builtin.append_ #[t, t] o.type #[v, y]).run P w = .ok v1 w1)
  (h : K (a.put o.dst v1) w1) : o.wp P a w K Q := by
 unfold Oper.wp execOp
 simp only [ho, resolve, invoke, builtin, Sem.run_bind, Sem.run_pure, Result.andThen_ok, List.map_toArray, List.map_cons, List.map_nil, hs, hx, hr]
 exact h
theorem C_litTry {w : World} (b : Nat) (t : TypeId) (fr : Nat × Nat) (x : Tr) (hx : Rd.IsInt x.reg ∧ Rd.IsInt x.at_) (hb : w.heap[b]? = some (.cells #[.int .i64 x.reg, .int .i64 x.at_] t fr)) : rdTry.C (· = b) w (some ⟨b, 0, none⟩) 1 [x] :=
 ⟨rfl, by omega, fun _ => ⟨_, rfl, rfl, (Array.getElem?_eq_some_iff.1 hb).1, fun i y hi => by
  match i, hi with
  | 0, hi =>
   simp at hi
   subst hi
   refine ⟨_, ⟨rfl, hx⟩, fun j u hj => ?_⟩
   have e : (⟨b, 0, none⟩ : Addr).add (0 * rdTry.sz + j) = ⟨b, j, none⟩ := by
    unfold Addr.add; split
    ·rename_i h; simp at h; simp [h]
    ·simp
   rw [e, World.cell?, hb]
   simpa [Tr.cells] using hj
  | n + 1, hi => simp at hi⟩⟩
/-- What the clone and the element come to. -/
theorem try_append (w : World) (base B : Nat) (v : Value) (l : List Tr) (x : Tr) (hx : Rd.IsInt x.reg ∧ Rd.IsInt x.at_) (blk : Nat) (hblk : w.heap[blk]? = some (.cells #[.int .i64 x.reg, .int .i64 x.at_] 101 (0, 0))) (ho : Own rdTry 101 (fun _ => False) w B v l) (hne : v.ownBlock ≠ some blk) (hB : B ≤ w.heap.size) (hl : l.length ≤ 1000) :
  ∃ v1 w1, (Builtin.append_ #[59, 59] 59 #[v, .slice (some ⟨blk, 0, none⟩) 1 1]).run Tryz.prog w = .ok v1 w1 ∧ Own rdTry 101 (fun _ => False) w1 B v1 (l ++ [x]) ∧ Below B w w1 := by
 obtain ⟨v1, w1, hr, ho1, hg, hat⟩ := (ho.mono (ok' := fun k => k = blk) (fun k hk => hk.elim)).append (t := 59) Tryz.underlying59 infoTry rfl (by decide) (by decide) (some ⟨blk, 0, none⟩) 1 1 (fun h => by cases h) (C_litTry blk _ _ x hx hblk) (fun k hk => ⟨hk, fun he => hne (by rw [← he, hk])⟩) (by omega) hB 59
 exact ⟨v1, w1, hr, ho1.any, (Below.refl _ _).grown hg hB (fun k hk => (ho.lt k hk).1)⟩

set_option maxRecDepth 100000 in
set_option maxHeartbeats 8000000 in
theorem from_30 (w : World) (base : Nat) (hbase : base ≤ w.heap.size) (f : Wf) (vt : Value) (st : St) (h : WS w base f vt st) (hlen : st.todo.length ≤ 900) (at_ : Nat) (hi : at_ < f.n) (code : List Ord) (hcode : rdOrd.CB base w f.A5 f.n code) (i : Ord) (hci : code[at_]? = some i) (l : List Tr) (hm : st.out[at_]? = some l) (h20 : l.length ≤ 20) (hop : i.op = 30) (hjmp : 0 ≤ i.b) :
  Calls Tryz.prog 165 #[.pointer (some ⟨f.wb, 0, none⟩), .int .i64 at_] w fun e w' => e = .returned (.tuple #[]) ∧ Below base w w' ∧ ∃ vt', Kept f w w' vt vt' ∧ WS w' base f vt' (comeF f.n (comeF f.n st i.b l) ((at_ : Int) + 1) (l ++ [⟨i.a, i.b⟩])) := by
 obtain ⟨outv, o1, o2, o3⟩ := h.ho
 obtain ⟨u0, hu0⟩ : ∃ u0, outv[at_]? = some u0 := ⟨_, List.getElem?_eq_getElem (by omega)⟩
 have hsl := o3 at_ u0 l hu0 hm
 obtain ⟨A', c', hv', s1, s2, s3, hC'⟩ := hsl
 injection hv' with hv'
 subst hv'
 obtain ⟨ad, cs, hA5, hadb, hads, ⟨rfl, hii⟩, hc0, hcj⟩ := hcode.elem at_ i hci
 obtain ⟨op, a, b, c, line⟩ := i
 simp only [Ord.cells] at hop hjmp hc0 hcj ⊢
 have n28 : (op == 28) = false := by rw [hop]; rfl
 have n29 : (op == 29) = false := by rw [hop]; rfl
 have n13 : (op == 13) = false := by rw [hop]; rfl
 have n14 : (op == 14) = false := by rw [hop]; rfl
 have n15 : (op == 15) = false := by rw [hop]; rfl
 have n30 : (op == 30) = true := by rw [hop]; rfl
 clear hop
 have x0 : w.cell? (ad.add (at_ * 5)) = some (.int .i64 op) := hc0 _ rfl
 have x1 : w.cell? ⟨(ad.add (at_ * 5)).block, (ad.add (at_ * 5)).off + 1, none⟩ = some (.int .i64 a) := hcj 0 _ rfl
 have x2 : w.cell? ⟨(ad.add (at_ * 5)).block, (ad.add (at_ * 5)).off + 2, none⟩ = some (.int .i64 b) := hcj 1 _ rfl
 have x3 : w.cell? ⟨(ad.add (at_ * 5)).block, (ad.add (at_ * 5)).off + 3, none⟩ = some (.int .i64 c) := hcj 2 _ rfl
 have x4 : w.cell? ⟨(ad.add (at_ * 5)).block, (ad.add (at_ * 5)).off + 4, none⟩ = some (.int .i64 line) := hcj 3 _ rfl
 have xb : (ad.add (at_ * 5)).block < w.heap.size := by rw [Rd.block_add]; exact hads
 have e4 : w.cell? ⟨f.wb, 4, none⟩ = some (.slice (some ad) f.n f.c5) := by rw [cell_at h.hw 4 rfl]; simp [hA5]
 have e6 : w.cell? ⟨f.wb, 6, none⟩ = some (.slice (some ⟨f.ob, 0, none⟩) f.n f.n) := cell_at h.hw 6 rfl
 have eo : w.cell? ⟨f.ob, at_, none⟩ = some (.slice A' l.length c') := cell_at o1 at_ (by simpa using hu0)
 have lw : f.wb < w.heap.size := (Array.getElem?_eq_some_iff.1 h.hw).1
 have lo : f.ob < w.heap.size := (Array.getElem?_eq_some_iff.1 o1).1
 have ls : f.sb < w.heap.size := (Array.getElem?_eq_some_iff.1 h.hs).1
 have hn := h.hn
 have hb1 : (at_ : Int) < (f.n : Int) := by omega
 obtain ⟨W1, hW1⟩ : ∃ W1, W1 = (w.alloc (.cells #[.int .i64 op, .int .i64 a, .int .i64 b, .int .i64 c, .int .i64 line] 235)).drew := ⟨_, rfl⟩
 have sz1 : W1.heap.size = w.heap.size + 1 := by rw [hW1]; simp
 have same : Below w.heap.size w W1 := by rw [hW1]; exact ((Below.refl _ _).alloc (Nat.le_refl _) _).drew
 have hWS := h.same (fun k hk => same.block k hk)
 have hok : f.ok vt w.heap.size := ⟨by omega, by omega, by omega, fun he => by have := (h.own.lt _ he.symm).2; omega⟩
 have hK0 : Kept f w W1 vt vt := Kept.same same
 have hL : SlK rdTry (f.ok vt) W1 l (.slice A' l.length c') := hK0.list ⟨A', c', rfl, s1, s2, s3, hC'⟩
 have y0 : W1.cell? ⟨w.heap.size, 0, none⟩ = some (.int .i64 op) := by rw [hW1]; show (w.alloc _).cell? _ = _; exact laid_cell _ _ _ _ rfl
 have y1 : W1.cell? ⟨w.heap.size, 1, none⟩ = some (.int .i64 a) := by rw [hW1]; show (w.alloc _).cell? _ = _; exact laid_cell _ _ _ _ rfl
 have y2 : W1.cell? ⟨w.heap.size, 2, none⟩ = some (.int .i64 b) := by rw [hW1]; show (w.alloc _).cell? _ = _; exact laid_cell _ _ _ _ rfl
 have HCM := Lib.hid (fun (x : Int) (hx : 0 ≤ x) => come_any W1 base (by omega) f vt st hWS x hx _ l hL (by omega))
 have H0 := Lib.hid (And.intro (same.mono hbase) (And.intro hK0 hWS))
 have HL := Lib.hid hL
 have HO := Lib.hid hok
 have hab : Rd.IsInt a ∧ Rd.IsInt b := ⟨hii.2.1, hii.2.2.1⟩
 clear h o1 o2 o3 hu0 hC' hc0 hcj hcode same hWS hK0 hL hok hads hadb hA5 hii
 go_enter Tryz.func165, Tryz.ntmps165
 go_wp2_with fail
 go_region
 rw [← hW1]
 clear hW1 x0 x1 x2 x3 x4 xb e4 e6 eo lo ls
 go_wp2_with fail
 refine (HCM.out b hjmp).mono ?_
 rintro e w2 ⟨rfl, hb, vt2, hk, hws⟩
 have hsz : w.heap.size + 1 ≤ w2.heap.size := by have := hk.size; omega
 have hbase2 : base ≤ w2.heap.size := by omega
 have hbk := hk.block w.heap.size (by omega) HO.out
 have q1 : w2.cell? ⟨w.heap.size, 1, none⟩ = some (.int .i64 a) := by rw [World.cell?_of_block (w := W1) (by exact hbk)]; exact y1
 have q2 : w2.cell? ⟨w.heap.size, 2, none⟩ = some (.int .i64 b) := by rw [World.cell?_of_block (w := W1) (by exact hbk)]; exact y2
 clear hbk
 have hL2 := hk.list HL.out
 have lw2 : f.wb < w2.heap.size := (Array.getElem?_eq_some_iff.1 hws.hw).1
 have ls2 : f.sb < w2.heap.size := (Array.getElem?_eq_some_iff.1 hws.hs).1
 have lo2 : f.ob < w2.heap.size := by obtain ⟨outw, ow1, _⟩ := hws.ho; exact (Array.getElem?_eq_some_iff.1 ow1).1
 have HWS := Lib.hid (fun (w' : World) (h' : Below w2.heap.size w2 w') => hws.same (fun k hk => h'.block k hk))
 have HLL0 := Lib.hid (fun (w' : World) (h' : Below w2.heap.size w2 w') => (Rd.slice rdTry).move (fun k hk _ => h'.block k hk.2) ((Rd.slice rdTry).bound hL2))
 have HLI : Hid (∀ (w' : World) (v : Value), Own rdTry 101 (fun _ => False) w' w2.heap.size v (l ++ [⟨a, b⟩]) → SlK rdTry (f.ok vt2) w' (l ++ [⟨a, b⟩]) v) := Lib.hid (fun w' v h' => (Rd.slice rdTry).mono (fun k hk => by
  rcases hk with hk | hk
  ·exact hk.elim
  ·have := (h'.lt k hk).1
   exact ⟨by omega, by omega, by omega, fun he => by have := (hws.own.lt k he.symm).2; omega⟩) (h'.reads (by decide)))
 have HS : Hid (∀ w' : World, Below w2.heap.size w2 w' → w'.cell? ⟨w.heap.size, 1, none⟩ = some (.int .i64 a) ∧ w'.cell? ⟨w.heap.size, 2, none⟩ = some (.int .i64 b) ∧ Below w2.heap.size w2 w') := Lib.hid (fun w' h' => ⟨(h'.cell (p := ⟨w.heap.size, 1, none⟩) (by simp; omega)).trans q1, (h'.cell (p := ⟨w.heap.size, 2, none⟩) (by simp; omega)).trans q2, h'⟩)
 have HS2 : Hid (∀ w' : World, w'.cell? ⟨w.heap.size, 1, none⟩ = some (.int .i64 a) ∧ w'.cell? ⟨w.heap.size, 2, none⟩ = some (.int .i64 b) ∧ Below w2.heap.size w2 w' → Below w2.heap.size w2 w') := Lib.hid (fun w' h' => h'.2.2)
 have HLL : Hid (∀ w' : World, w'.cell? ⟨w.heap.size, 1, none⟩ = some (.int .i64 a) ∧ w'.cell? ⟨w.heap.size, 2, none⟩ = some (.int .i64 b) ∧ Below w2.heap.size w2 w' → SlK rdTry (fun k => f.ok vt2 k ∧ k < w2.heap.size) w' l (.slice A' l.length c')) := Lib.hid (fun w' h' => HLL0.out w' h'.2.2)
 have R := Lib.hid (And.intro (H0.out.1.trans hb) (H0.out.2.1.trans hk))
 have hblt : w.heap.size < w2.heap.size := by omega
 clear hb hk hws hL2 lw2 ls2 lo2 HLL0
 go_wp2_with fail
 refine wp_region_held_drew (S := fun w' => w'.cell? ⟨w.heap.size, 1, none⟩ = some (.int .i64 a) ∧ w'.cell? ⟨w.heap.size, 2, none⟩ = some (.int .i64 b) ∧ Below w2.heap.size w2 w') (by kernel_rfl) (HS.out _ (Below.refl _ _).drew) (fun hHeld => ?_)
 try dsimp only
 generalize w2.drew = w4 at hHeld ⊢
 refine wpAnyH_take (i := 0) (oi := ?oiz1) (v := ?vvz1) ?hiz1 (by kernel_rfl) (by kernel_rfl) (by kernel_rfl) ?hQz1 (Or.inl ⟨?hwz1, ?hyz1⟩) (by assumption) ?hhz1
 case hiz1 => simp only [List.getElem?_toArray, List.getElem?_cons_succ, List.getElem?_cons_zero]; rfl
 case hwz1 => rfl
 case hyz1 => (intro w hSw; (try dsimp only at hSw); go_simp; (try with_reducible rfl))
 case hQz1 => exact fun _ _ _ h => h
 try simp only [Act.put, List.setIfInBounds_toArray, List.set_cons_zero, List.set_cons_succ]
 refine wpAnyH_take (i := 2) (oi := ?oiz2) (v := ?vvz2) ?hiz2 (by kernel_rfl) (by kernel_rfl) (by kernel_rfl) ?hQz2 (Or.inl ⟨?hwz2, ?hyz2⟩) (by assumption) ?hhz2
 case hiz2 => simp only [List.getElem?_toArray, List.getElem?_cons_succ, List.getElem?_cons_zero]; rfl
 case hwz2 => rfl
 case hyz2 => (intro w hSw; (try dsimp only at hSw); go_simp; (try with_reducible rfl))
 case hQz2 => exact fun _ _ _ h => h
 try simp only [Act.put, List.setIfInBounds_toArray, List.set_cons_zero, List.set_cons_succ]
 refine wpAnyH_take (i := 3) (oi := ?oiz3) (v := ?vvz3) ?hiz3 (by kernel_rfl) (by kernel_rfl) (by kernel_rfl) ?hQz3 (Or.inl ⟨?hwz3, ?hyz3⟩) (by assumption) ?hhz3
 case hiz3 => simp only [List.getElem?_toArray, List.getElem?_cons_succ, List.getElem?_cons_zero]; rfl
 case hwz3 => rfl
 case hyz3 => (intro w hSw; (try dsimp only at hSw); go_simp; (try with_reducible rfl))
 case hQz3 => exact fun _ _ _ h => h
 try simp only [Act.put, List.setIfInBounds_toArray, List.set_cons_zero, List.set_cons_succ]
 refine wpAnyH_take (i := 4) (oi := ?oiz4) (v := ?vvz4) ?hiz4 (by kernel_rfl) (by kernel_rfl) (by kernel_rfl) ?hQz4 (Or.inl ⟨?hwz4, ?hyz4⟩) (by assumption) ?hhz4
 case hiz4 => simp only [List.getElem?_toArray, List.getElem?_cons_succ, List.getElem?_cons_zero]; rfl
 case hwz4 => rfl
 case hyz4 => (intro w hSw; (try dsimp only at hSw); go_simp; (try with_reducible rfl))
 case hQz4 => exact fun _ _ _ h => h
 try simp only [Act.put, List.setIfInBounds_toArray, List.set_cons_zero, List.set_cons_succ]
 refine wpAnyH_take (i := 5) (oi := ?oiz5) (v := ?vvz5) ?hiz5 (by kernel_rfl) (by kernel_rfl) (by kernel_rfl) ?hQz5 (Or.inl ⟨?hwz5, ?hyz5⟩) (by assumption) ?hhz5
 case hiz5 => simp only [List.getElem?_toArray, List.getElem?_cons_succ, List.getElem?_cons_zero]; rfl
 case hwz5 => rfl
 case hyz5 => (intro w hSw; (try dsimp only at hSw); go_simp; (try with_reducible rfl))
 case hQz5 => exact fun _ _ _ h => h
 try simp only [Act.put, List.setIfInBounds_toArray, List.set_cons_zero, List.set_cons_succ]
 refine wpAnyH_take (i := 6) (oi := ?oiz6) (v := ?vvz6) ?hiz6 (by kernel_rfl) (by kernel_rfl) (by kernel_rfl) ?hQz6 (Or.inl ⟨?hwz6, ?hyz6⟩) (by assumption) ?hhz6
 case hiz6 => simp only [List.getElem?_toArray, List.getElem?_cons_succ, List.getElem?_cons_zero]; rfl
 case hwz6 => rfl
 case hyz6 => (intro w hSw; (try dsimp only at hSw); go_simp; (try with_reducible rfl))
 case hQz6 => exact fun _ _ _ h => h
 try simp only [Act.put, List.setIfInBounds_toArray, List.set_cons_zero, List.set_cons_succ]
 refine wpAnyH_ready (rs := [1, 7]) (by kernel_rfl) (by simp) ?_
 refine AllReadyH.cons (o := ?oiz7) ?hiz7 (fun K hK => ?hhz7) ?rest1
 case hiz7 => simp only [List.getElem?_toArray, List.getElem?_cons_succ, List.getElem?_cons_zero]; rfl
 ·skip
  go_simp
  go_at_call 85
  refine (cloneTry_any _ w4 _ l (HLL.out w4 (by assumption)) (by omega)).mono ?_
  rintro e w5 ⟨v1, rfl, hbC, hownC⟩
  go_wp2_with fail
  refine hK.out _ _ ?_ (fun hHeld1 => ?_)
  ·exact HS.out w5 ((HS2.out w4 (by assumption)).trans (hbC.mono (HS2.out w4 (by assumption)).size))
  clear hK K
  try simp only [Act.put, List.setIfInBounds_toArray, List.set_cons_zero, List.set_cons_succ]
  refine wpAnyH_ready (rs := [7]) (by kernel_rfl) (by simp) ?_
  refine AllReadyH.cons (o := ?oiz8) ?hiz8 (fun K hK => ?hhz8) AllReadyH.nil
  case hiz8 => simp only [List.getElem?_toArray, List.getElem?_cons_succ, List.getElem?_cons_zero]; rfl
  go_simp
  obtain ⟨w6, hWw6⟩ : ∃ w6, w6 = w5.alloc (.cells #[.int .i64 a, .int .i64 b] 101) := ⟨_, rfl⟩
  rw [← hWw6]
  have HWw6 := Lib.hid hWw6
  clear hWw6
  refine hK.out _ _ ?_ (fun hHeld2 => ?_)
  ·exact HS.out w6 (by rw [HWw6.out]; exact (HS2.out w5 (by assumption)).alloc (HS2.out w5 (by assumption)).size _)
  clear hK K
  try simp only [Act.put, List.setIfInBounds_toArray, List.set_cons_zero, List.set_cons_succ]
  have hB5 := HS2.out w5 hHeld1
  obtain ⟨v9, w9, hrA, hoA, hbA'⟩ := try_append w6 base w2.heap.size v1 l ⟨a, b⟩ hab w5.heap.size (by rw [HWw6.out]; exact heap_alloc_new _ _) (((hownC.lower (HS2.out w4 hHeld).size).alloc (.cells #[.int .i64 a, .int .i64 b] 101)) |> fun h => by rw [HWw6.out]; exact h) (fun he => by have := (hownC.lt _ he).2; omega) (HS2.out w6 hHeld2).size (by omega)
  have hbA : Below w2.heap.size w2 w9 := (HS2.out w6 hHeld2).trans hbA'
  clear hbA' hB5 hbC hownC
  refine wpAnyH_ready (rs := [8]) (by kernel_rfl) (by simp) ?_
  refine AllReadyH.cons (o := ?oiz9) ?hiz9 (fun K hK => ?hhz9) AllReadyH.nil
  case hiz9 => simp only [List.getElem?_toArray, List.getElem?_cons_succ, List.getElem?_cons_zero]; rfl
  rw [if_pos (by rfl)]
  refine wp_append_eq _ _ _ rfl _ _ rfl rfl hrA ?_
  refine hK.out _ _ ?_ (fun hHeld9 => ?_)
  ·exact HS.out _ hbA
  clear hK K
  try simp only [Act.put, List.setIfInBounds_toArray, List.set_cons_zero, List.set_cons_succ]
  refine wpAnyH_take (i := 9) (oi := ?oiz10) (v := ?vvz10) ?hiz10 (by kernel_rfl) (by kernel_rfl) (by kernel_rfl) ?hQz10 (Or.inl ⟨?hwz10, ?hyz10⟩) (by assumption) ?hhz10
  case hiz10 => simp only [List.getElem?_toArray, List.getElem?_cons_succ, List.getElem?_cons_zero]; rfl
  case hwz10 => rfl
  case hyz10 => (intro w hSw; (try dsimp only at hSw); go_simp; (try with_reducible rfl))
  case hQz10 => exact fun _ _ _ h => h
  try simp only [Act.put, List.setIfInBounds_toArray, List.set_cons_zero, List.set_cons_succ]
  refine wpAnyH_done (by kernel_rfl) ?_ _
  have HC3 := Lib.hid (come_any w9 base (by have := hbA.size; omega) f vt2 _ (HWS.out w9 hbA) ((at_ : Int) + 1) (by omega) v9 (l ++ [⟨a, b⟩]) (HLI.out w9 v9 hoA) (by have := comeF_todo f.n st b l; omega))
  have R3 := Lib.hid (And.intro (R.out.1.trans (hbA.mono hbase2)) (R.out.2.trans (Kept.same hbA)))
  clear hrA hoA hbA hHeld9 hHeld
  go_wp2_with fail
  refine (HC3.out).mono ?_
  rintro e w3 ⟨rfl, hb, vt3, hk, hws⟩
  have R2 := Lib.hid (And.intro (R3.out.1.trans hb) (And.intro (R3.out.2.trans hk) hws))
  clear hb hk hws
  go_wp2_with fail
  go_end0
  exact ⟨rfl, R2.out.1, vt3, R2.out.2.1, R2.out.2.2⟩
 case rest1 =>
  refine AllReadyH.cons (o := ?oiz11) ?hiz11 (fun K hK => ?hhz11) AllReadyH.nil
  case hiz11 => simp only [List.getElem?_toArray, List.getElem?_cons_succ, List.getElem?_cons_zero]; rfl
  go_simp
  obtain ⟨w5, hWw5⟩ : ∃ w5, w5 = w4.alloc (.cells #[.int .i64 a, .int .i64 b] 101) := ⟨_, rfl⟩
  rw [← hWw5]
  have HWw5 := Lib.hid hWw5
  clear hWw5
  refine hK.out _ _ ?_ (fun hHeld1 => ?_)
  ·exact HS.out w5 (by rw [HWw5.out]; exact (HS2.out w4 (by assumption)).alloc (HS2.out w4 (by assumption)).size _)
  clear hK K
  try simp only [Act.put, List.setIfInBounds_toArray, List.set_cons_zero, List.set_cons_succ]
  refine wpAnyH_ready (rs := [1]) (by kernel_rfl) (by simp) ?_
  refine AllReadyH.cons (o := ?oiz12) ?hiz12 (fun K hK => ?hhz12) AllReadyH.nil
  case hiz12 => simp only [List.getElem?_toArray, List.getElem?_cons_succ, List.getElem?_cons_zero]; rfl
  go_simp
  go_at_call 85
  refine (cloneTry_any _ w5 _ l (HLL.out w5 (by assumption)) (by omega)).mono ?_
  rintro e w6 ⟨v1, rfl, hbC, hownC⟩
  go_wp2_with fail
  refine hK.out _ _ ?_ (fun hHeld2 => ?_)
  ·exact HS.out w6 ((HS2.out w5 (by assumption)).trans (hbC.mono (HS2.out w5 (by assumption)).size))
  clear hK K
  try simp only [Act.put, List.setIfInBounds_toArray, List.set_cons_zero, List.set_cons_succ]
  have hB5 := HS2.out w5 hHeld1
  obtain ⟨v9, w9, hrA, hoA, hbA'⟩ := try_append w6 base w2.heap.size v1 l ⟨a, b⟩ hab w4.heap.size (by rw [hbC.block _ (by rw [HWw5.out]; simp), HWw5.out]; exact heap_alloc_new _ _) (hownC.lower hB5.size) (fun he => by have := (hownC.lt _ he).1; rw [HWw5.out] at this; simp at this; omega) (HS2.out w6 hHeld2).size (by omega)
  have hbA : Below w2.heap.size w2 w9 := (HS2.out w6 hHeld2).trans hbA'
  clear hbA' hB5 hbC hownC
  refine wpAnyH_ready (rs := [8]) (by kernel_rfl) (by simp) ?_
  refine AllReadyH.cons (o := ?oiz13) ?hiz13 (fun K hK => ?hhz13) AllReadyH.nil
  case hiz13 => simp only [List.getElem?_toArray, List.getElem?_cons_succ, List.getElem?_cons_zero]; rfl
  rw [if_pos (by rfl)]
  refine wp_append_eq _ _ _ rfl _ _ rfl rfl hrA ?_
  refine hK.out _ _ ?_ (fun hHeld9 => ?_)
  ·exact HS.out _ hbA
  clear hK K
  try simp only [Act.put, List.setIfInBounds_toArray, List.set_cons_zero, List.set_cons_succ]
  refine wpAnyH_take (i := 9) (oi := ?oiz14) (v := ?vvz14) ?hiz14 (by kernel_rfl) (by kernel_rfl) (by kernel_rfl) ?hQz14 (Or.inl ⟨?hwz14, ?hyz14⟩) (by assumption) ?hhz14
  case hiz14 => simp only [List.getElem?_toArray, List.getElem?_cons_succ, List.getElem?_cons_zero]; rfl
  case hwz14 => rfl
  case hyz14 => (intro w hSw; (try dsimp only at hSw); go_simp; (try with_reducible rfl))
  case hQz14 => exact fun _ _ _ h => h
  try simp only [Act.put, List.setIfInBounds_toArray, List.set_cons_zero, List.set_cons_succ]
  refine wpAnyH_done (by kernel_rfl) ?_ _
  have HC3 := Lib.hid (come_any w9 base (by have := hbA.size; omega) f vt2 _ (HWS.out w9 hbA) ((at_ : Int) + 1) (by omega) v9 (l ++ [⟨a, b⟩]) (HLI.out w9 v9 hoA) (by have := comeF_todo f.n st b l; omega))
  have R3 := Lib.hid (And.intro (R.out.1.trans (hbA.mono hbase2)) (R.out.2.trans (Kept.same hbA)))
  clear hrA hoA hbA hHeld9 hHeld
  go_wp2_with fail
  refine (HC3.out).mono ?_
  rintro e w3 ⟨rfl, hb, vt3, hk, hws⟩
  have R2 := Lib.hid (And.intro (R3.out.1.trans hb) (And.intro (R3.out.2.trans hk) hws))
  clear hb hk hws
  go_wp2_with fail
  go_end0
  exact ⟨rfl, R2.out.1, vt3, R2.out.2.1, R2.out.2.2⟩
end Go.Proofs.YtkonkblfckhcbaaGreatDoor
namespace Go.Proofs.YtkonkblfckhcbaaGreatDoor
set_option linter.unusedVariables false
set_option linter.unusedSimpArgs false
open Go.RowKit

/-- The ways out of an order lead nowhere below 0. -/
def jumpsOk (code : List Ord) : Prop := ∀ i ∈ code, ((i.op = 13 ∨ i.op = 14) → 0 ≤ i.a) ∧ ((i.op = 15 ∨ i.op = 30) → 0 ≤ i.b)

theorem from_any (w : World) (base : Nat) (hbase : base ≤ w.heap.size) (f : Wf) (vt : Value) (st : St) (h : WS w base f vt st) (hlen : st.todo.length ≤ 900) (at_ : Nat) (hi : at_ < f.n) (code : List Ord) (hcode : rdOrd.CB base w f.A5 f.n code) (hj : jumpsOk code) (h20 : ∀ l ∈ st.out, l.length ≤ 20) :
  Calls Tryz.prog 165 #[.pointer (some ⟨f.wb, 0, none⟩), .int .i64 at_] w fun e w' => e = .returned (.tuple #[]) ∧ Below base w w' ∧ ∃ vt', Kept f w w' vt vt' ∧ WS w' base f vt' (fromF f.n code st at_) := by
 obtain ⟨i, hci⟩ : ∃ i, code[at_]? = some i := ⟨_, List.getElem?_eq_getElem (by have := hcode.1; omega)⟩
 obtain ⟨l, hm⟩ : ∃ l, st.out[at_]? = some l := ⟨_, List.getElem?_eq_getElem (by have := h.lo; omega)⟩
 have hl := h20 l (List.mem_of_getElem? hm)
 obtain ⟨j1, j2⟩ := hj i (List.mem_of_getElem? hci)
 unfold fromF
 rw [hci, hm]
 simp only
 by_cases o1 : i.op = 28
 ·rw [if_pos (.inl o1)]; exact from_28 w base hbase f vt st h hlen at_ hi code hcode i hci l hm hl o1
 by_cases o2 : i.op = 29
 ·rw [if_pos (.inr o2)]; exact from_29 w base hbase f vt st h hlen at_ hi code hcode i hci l hm hl o2
 rw [if_neg (by omega)]
 by_cases o3 : i.op = 13
 ·rw [if_pos (.inl o3)]; exact from_13 w base hbase f vt st h hlen at_ hi code hcode i hci l hm hl o3 (j1 (.inl o3))
 by_cases o4 : i.op = 14
 ·rw [if_pos (.inr o4)]; exact from_14 w base hbase f vt st h hlen at_ hi code hcode i hci l hm hl o4 (j1 (.inr o4))
 rw [if_neg (by omega)]
 by_cases o5 : i.op = 15
 ·rw [if_pos o5]; exact from_15 w base hbase f vt st h hlen at_ hi code hcode i hci l hm hl o5 (j2 (.inl o5))
 rw [if_neg o5]
 by_cases o6 : i.op = 30
 ·rw [if_pos o6]; exact from_30 w base hbase f vt st h hlen at_ hi code hcode i hci l hm hl o6 (j2 (.inr o6))
 rw [if_neg o6]
 by_cases o7 : i.op = 31
 ·rw [if_pos o7]
  by_cases hl0 : l = []
  ·rw [if_pos hl0]; exact from_31a w base hbase f vt st h hlen at_ hi code hcode i hci l hm hl o7 hl0
  ·rw [if_neg hl0]; exact from_31b w base hbase f vt st h hlen at_ hi code hcode i hci l hm hl o7 hl0
 rw [if_neg o7]
 exact from_else w base hbase f vt st h hlen at_ hi code hcode i hci l hm hl ⟨by simpa using o1, by simpa using o2, by simpa using o3, by simpa using o4, by simpa using o5, by simpa using o6, by simpa using o7⟩

/-! ### the plain state -/
structure St.Ok (n : Nat) (st : St) : Prop where
 ls : st.seen.length = n
 lo : st.out.length = n
 ct : st.todo.length + st.seen.count false ≤ n
 td : ∀ x ∈ st.todo, 0 ≤ x ∧ x < n
 l20 : ∀ l ∈ st.out, l.length ≤ 20
/-- What still may be done. -/
def St.left (st : St) : Nat := st.todo.length + 2 * st.seen.count false
theorem count_set_true {l : List Bool} {i : Nat} (h : l[i]? = some false) : (l.set i true).count false + 1 = l.count false := by
 induction l generalizing i with
 | nil => simp at h
 | cons b t ih =>
  cases i with
  | zero => simp at h; subst h; simp
  | succ i =>
   simp only [List.getElem?_cons_succ] at h
   have := ih h
   cases b <;> simp <;> omega
theorem comeF_ok {n : Nat} {st : St} (h : st.Ok n) (at_ : Int) (h0 : 0 ≤ at_) (l : List Tr) : (comeF n st at_ l).Ok n ∧ (comeF n st at_ l).left ≤ st.left := by
 unfold comeF
 split
 ·exact ⟨⟨h.ls, h.lo, h.ct, h.td, h.l20⟩, Nat.le_refl _⟩
 ·rename_i hb
  split
  ·rename_i hs
   have hc := count_set_true hs
   refine ⟨⟨by simpa using h.ls, by simpa using h.lo, ?_, ?_, ?_⟩, ?_⟩
   ·have := h.ct
    simp only [List.length_append, List.length_singleton]
    omega
   ·intro x hx
    simp only [List.mem_append, List.mem_singleton] at hx
    rcases hx with hx | hx
    ·exact h.td x hx
    ·subst hx; exact ⟨h0, by omega⟩
   ·intro m hm
    rcases List.mem_or_eq_of_mem_set hm with hm | hm
    ·exact h.l20 m hm
    ·subst hm; omega
   ·simp only [St.left, List.length_append, List.length_singleton]
    omega
  ·split
   ·exact ⟨h, Nat.le_refl _⟩
   ·exact ⟨⟨h.ls, h.lo, h.ct, h.td, h.l20⟩, Nat.le_refl _⟩
theorem fromF_ok {n : Nat} {code : List Ord} {st : St} (h : st.Ok n) (hj : jumpsOk code) (at_ : Nat) : (fromF n code st at_).Ok n ∧ (fromF n code st at_).left ≤ st.left := by
 unfold fromF
 split
 ·rename_i i l hci hm
  obtain ⟨j1, j2⟩ := hj i (List.mem_of_getElem? hci)
  have two : ∀ x y : Int, 0 ≤ x → 0 ≤ y → ∀ l l', (comeF n (comeF n st x l) y l').Ok n ∧ (comeF n (comeF n st x l) y l').left ≤ st.left := fun x y hx hy l l' =>
   ⟨(comeF_ok (comeF_ok h x hx l).1 y hy l').1, Nat.le_trans (comeF_ok (comeF_ok h x hx l).1 y hy l').2 (comeF_ok h x hx l).2⟩
  split
  ·exact ⟨h, Nat.le_refl _⟩
  ·split
   ·rename_i ho; exact comeF_ok h _ (j1 ho) _
   ·split
    ·rename_i ho; exact two _ _ (j2 (.inl ho)) (by omega) _ _
    ·split
     ·rename_i ho; exact two _ _ (j2 (.inr ho)) (by omega) _ _
     ·split
      ·split
       ·exact ⟨⟨h.ls, h.lo, h.ct, h.td, h.l20⟩, Nat.le_refl _⟩
       ·exact comeF_ok h _ (by omega) _
      ·exact comeF_ok h _ (by omega) _
 ·exact ⟨h, Nat.le_refl _⟩

/-- One turn: the last place that is to be done is done. -/
def turnF (n : Nat) (code : List Ord) (st : St) : St := fromF n code { st with todo := st.todo.dropLast } ((st.todo.getLast?.getD 0).toNat)
def runF (n : Nat) (code : List Ord) : Nat → St → St
 | 0, st => st
 | k + 1, st => if st.todo = [] ∨ st.bad = true then st else runF n code k (turnF n code st)
theorem runF_done {n : Nat} {code : List Ord} {st : St} (h : st.todo = [] ∨ st.bad = true) (k : Nat) : runF n code k st = st := by
 cases k with
 | zero => rfl
 | succ k => simp only [runF, if_pos h]
theorem turnF_ok {n : Nat} {code : List Ord} {st : St} (h : st.Ok n) (hj : jumpsOk code) (hn : st.todo ≠ []) : (turnF n code st).Ok n ∧ (turnF n code st).left < st.left := by
 have h1 : ({ st with todo := st.todo.dropLast } : St).Ok n := ⟨h.ls, h.lo, by have := h.ct; simp only [List.length_dropLast]; omega, fun x hx => h.td x ((List.dropLast_sublist st.todo).subset hx), h.l20⟩
 have h2 := fromF_ok h1 hj (st.todo.getLast?.getD 0).toNat
 refine ⟨h2.1, Nat.lt_of_le_of_lt h2.2 ?_⟩
 have : 0 < st.todo.length := List.length_pos_iff.2 hn
 simp only [St.left, List.length_dropLast]
 omega
def init (n : Nat) : St := ⟨List.replicate n false, List.replicate n [], [], false⟩
/-- All tries of a function, whether each order is come to, and whether it is right. -/
def triesF (code : List Ord) : St := runF code.length code (2 * code.length + 2) (comeF code.length (init code.length) 0 [])
end Go.Proofs.YtkonkblfckhcbaaGreatDoor
namespace Go.Proofs.YtkonkblfckhcbaaGreatDoor
set_option linter.unusedVariables false
set_option linter.unusedSimpArgs false
open Go.RowKit

theorem Own.pop {e : TypeId} {w : World} {base : Nat} {A : Option Addr} {c : Nat} {xs : List Int} (h : Own Rd.int e (fun _ => False) w base (.slice A xs.length c) xs) (hx : xs ≠ []) : Own Rd.int e (fun _ => False) w base (.slice A (xs.length - 1) c) xs.dropLast := by
 obtain ⟨cells, ⟨h0, h1⟩, h2⟩ := h.ex
 have hp : 0 < xs.length := List.length_pos_iff.2 hx
 have hsz : Rd.int.sz = 1 := rfl
 rw [hsz, Nat.mul_one] at h0
 rcases h1 with ⟨h1, h1'⟩ | ⟨g, cap, cur, hv, hb, hh, hc, hm, hs, ht⟩
 ·omega
 ·injection hv with v1 v2 v3
  subst v1 v3
  refine ⟨cells.take (xs.length - 1), ⟨?_, .inr ⟨g, c, cur, by rw [List.length_dropLast], hb, hh, by rw [List.length_dropLast]; omega, hm, hs, ?_⟩⟩, fun i x hi => ?_⟩
  ·rw [List.length_take, h0, List.length_dropLast, hsz]; omega
  ·rw [List.length_dropLast, hsz, Nat.mul_one, ← ht, hsz, Nat.mul_one, List.take_take]
   congr 1
   omega
  ·have hi' : i < xs.length - 1 := by have := (List.getElem?_eq_some_iff.1 hi).1; rwa [List.length_dropLast] at this
   rw [List.getElem?_dropLast, if_pos hi'] at hi
   have := h2 i x hi
   obtain ⟨e1, e2⟩ := this
   refine ⟨?_, e2⟩
   rw [← e1]
   simp only [hsz, Nat.mul_one, List.take_one, List.head?_drop]
   rw [List.getElem?_take, if_pos hi']
theorem WS.pop {w : World} {base : Nat} {f : Wf} {A : Option Addr} {c : Nat} {st : St} (h : WS w base f (.slice A st.todo.length c) st) (hx : st.todo ≠ []) :
  WS (w.setCell ⟨f.wb, 7, none⟩ (.slice A (st.todo.length - 1) c)) base f (.slice A (st.todo.length - 1) c) { st with todo := st.todo.dropLast } := by
 obtain ⟨n1, n2, n3, b1, b2, b3⟩ := h.ne
 obtain ⟨t1, t2, t3⟩ := h.tb
 have hob : (Value.slice A (st.todo.length - 1) c).ownBlock = (Value.slice A st.todo.length c).ownBlock := by cases A <;> rfl
 have K : ∀ k, k ≠ f.wb → (w.setCell ⟨f.wb, 7, none⟩ (.slice A (st.todo.length - 1) c)).heap[k]? = w.heap[k]? := fun k hk => Below.heap_setCell _ _ _ _ hk
 obtain ⟨outv, h1, h2, h3⟩ := h.ho
 have hq : ∀ k, (False ∨ (Value.slice A (st.todo.length - 1) c).ownBlock = some k) → k ≠ f.wb := by
  rw [hob]
  rintro k (hk | hk) rfl
  ·exact hk
  ·exact t1 hk
 refine ⟨?_, (K _ (Ne.symm n1)).trans h.hs, ⟨outv, (K _ (Ne.symm n3)).trans h1, h2, fun i v l hv hl => (Rd.slice rdTry).mono (fun k hk => ⟨hk.1, hk.2.1, hk.2.2.1, by rw [hob]; exact hk.2.2.2⟩) ((Rd.slice rdTry).move (fun k hk _ => K k (Nat.ne_of_gt hk.1)) (h3 i v l hv hl))⟩, (h.own.pop hx).move (fun k hk _ => K k (hq k hk)), h.ne, by rw [hob]; exact h.tb, h.ls, h.lo, h.hn⟩
 rw [block_set h.hw 7]
 rfl
end Go.Proofs.YtkonkblfckhcbaaGreatDoor
namespace Go.Proofs.YtkonkblfckhcbaaGreatDoor
set_option linter.unusedVariables false
set_option linter.unusedSimpArgs false
open Go.RowKit

theorem madeCells_one (z : Value) (n : Nat) (hz : z.cells = #[z]) : madeCells z.cells (n * 1) = Array.replicate n z := by
 apply Array.toList_inj.1
 rw [hz, toList_madeCells_one, Nat.mul_one, Array.toList_replicate]
theorem make_seen (n : Nat) (hn : n ≤ 600) (w : World) : (Instr.makeSlice 156 (.int .i64 (n : Int)) (.int .i64 (n : Int))).run Tryz.prog w = .ok (.slice (some ⟨w.heap.size, 0, none⟩) n n) (w.alloc (.cells (Array.replicate n (Value.bool false)) 4)) := by
 obtain ⟨i, hi, hz, hs, hb⟩ : ∃ i, Tryz.prog.info? 4 = some i ∧ i.zero = some (.bool false) ∧ i.size = 1 ∧ i.bytes = 1 := by
  have h : (Tryz.prog.info? 4).map (fun i => (i.zero, i.size, i.bytes)) = some (some (Value.bool false), 1, 1) := by kernel_rfl
  obtain ⟨i, hi, he⟩ := Option.map_eq_some_iff.1 h
  simp only [Prod.mk.injEq] at he
  exact ⟨i, hi, he.1, he.2.1, he.2.2⟩
 have h := run_make (P := Tryz.prog) w 156 4 i (.bool false) Tryz.underlying156 hi hz .i64 .i64 (n : Int) (n : Int) (by omega) (by omega) (by rw [hb]; omega) (by omega)
 rw [Int.toNat_natCast] at h
 rw [h, hs, madeCells_one _ _ rfl]
theorem make_out (n : Nat) (hn : n ≤ 600) (w : World) : (Instr.makeSlice 197 (.int .i64 (n : Int)) (.int .i64 (n : Int))).run Tryz.prog w = .ok (.slice (some ⟨w.heap.size, 0, none⟩) n n) (w.alloc (.cells (Array.replicate n (Value.slice none 0 0)) 59)) := by
 obtain ⟨i, hi, hz, hs, hb⟩ : ∃ i, Tryz.prog.info? 59 = some i ∧ i.zero = some (.slice none 0 0) ∧ i.size = 1 ∧ i.bytes = 24 := by
  have h : (Tryz.prog.info? 59).map (fun i => (i.zero, i.size, i.bytes)) = some (some (Value.slice none 0 0), 1, 24) := by kernel_rfl
  obtain ⟨i, hi, he⟩ := Option.map_eq_some_iff.1 h
  simp only [Prod.mk.injEq] at he
  exact ⟨i, hi, he.1, he.2.1, he.2.2⟩
 have h := run_make (P := Tryz.prog) w 197 59 i (.slice none 0 0) Tryz.underlying197 hi hz .i64 .i64 (n : Int) (n : Int) (by omega) (by omega) (by rw [hb]; omega) (by omega)
 rw [Int.toNat_natCast] at h
 rw [h, hs, madeCells_one _ _ rfl]

/-! ### the loop -/
/-- How much is still to be done, read off memory. -/
def leftW (f : Wf) (w : World) : Nat :=
 (match w.cell? ⟨f.wb, 7, none⟩ with | some (.slice _ n _) => n | _ => 0) + 2 * (match w.heap[f.sb]? with | some (.cells cs _ _) => cs.toList.countP (fun v => match v with | .bool false => true | _ => false) | _ => 0)
theorem WS.left {w : World} {base : Nat} {f : Wf} {vt : Value} {st : St} (h : WS w base f vt st) : leftW f w = st.left := by
 obtain ⟨A, c, hv, _⟩ := h.own.reads (by decide)
 injection hv with hv
 subst hv
 have e7 := cell_at h.hw 7 rfl
 have e7' : w.cell? ⟨f.wb, 7, none⟩ = some (.slice A st.todo.length c) := e7
 unfold leftW St.left
 rw [e7', h.hs]
 simp only
 congr 2
 rw [List.count, List.countP_map]
 congr 1
 funext b
 cases b <;> rfl
theorem init_ok (n : Nat) : (init n).Ok n := ⟨by simp [init], by simp [init], by simp [init], fun x hx => by simp [init] at hx, fun l hl => by simp [init] at hl; rw [hl.2]; simp⟩
/-- The walk as it begins. -/
theorem WS.init (w : World) (base : Nat) (f : Wf) (hn : f.n ≤ 600) (hne : f.wb ≠ f.sb ∧ f.sb ≠ f.ob ∧ f.wb ≠ f.ob ∧ base ≤ f.wb ∧ base ≤ f.sb ∧ base ≤ f.ob)
  (hw : w.heap[f.wb]? = some (.cells (f.cells (.slice none 0 0) false) 248 (0, 0))) (hs : w.heap[f.sb]? = some (.cells (Array.replicate f.n (Value.bool false)) 4 (0, 0))) (ho : w.heap[f.ob]? = some (.cells (Array.replicate f.n (Value.slice none 0 0)) 59 (0, 0))) :
  WS w base f (.slice none 0 0) (init f.n) :=
 ⟨hw, by rw [hs]; simp [Go.Proofs.YtkonkblfckhcbaaGreatDoor.init], ⟨List.replicate f.n (.slice none 0 0), by rw [ho]; simp, by simp, fun i v l hv hl => by
  obtain ⟨h1, rfl⟩ := by simpa [List.getElem?_replicate] using hv
  obtain ⟨h2, rfl⟩ := by simpa [Go.Proofs.YtkonkblfckhcbaaGreatDoor.init, List.getElem?_replicate] using hl
  exact ⟨none, 0, rfl, Nat.le_refl _, by omega, fun _ => rfl, Rd.C.nil _ _ _ _⟩⟩, Own.nil _ _ _ _ _, hne, ⟨by simp [Value.ownBlock], by simp [Value.ownBlock], by simp [Value.ownBlock]⟩, by simp [Go.Proofs.YtkonkblfckhcbaaGreatDoor.init], by simp [Go.Proofs.YtkonkblfckhcbaaGreatDoor.init], hn⟩
theorem four (w : World) (a b c d : Obj) : ((((w.alloc a).alloc b).alloc c).alloc d).drew.heap[w.heap.size + 1]? = some b ∧ ((((w.alloc a).alloc b).alloc c).alloc d).drew.heap[w.heap.size + 1 + 1]? = some c ∧ ((((w.alloc a).alloc b).alloc c).alloc d).drew.heap[w.heap.size + 1 + 1 + 1]? = some d ∧ Below w.heap.size w ((((w.alloc a).alloc b).alloc c).alloc d).drew := by
 refine ⟨?_, ?_, ?_, ?_⟩
 ·show ((((w.alloc a).alloc b).alloc c).alloc d).heap[_]? = _
  rw [Below.heap_alloc _ _ _ (by simp), Below.heap_alloc _ _ _ (by simp)]
  have := heap_alloc_new (w.alloc a) b
  simpa using this
 ·show ((((w.alloc a).alloc b).alloc c).alloc d).heap[_]? = _
  rw [Below.heap_alloc _ _ _ (by simp)]
  have := heap_alloc_new ((w.alloc a).alloc b) c
  simpa using this
 ·show ((((w.alloc a).alloc b).alloc c).alloc d).heap[_]? = _
  have := heap_alloc_new (((w.alloc a).alloc b).alloc c) d
  simpa using this
 ·exact (((((Below.refl _ _).alloc (Nat.le_refl _) _).alloc (by simp) _).alloc (by simp; omega) _).alloc (by simp; omega) _).drew

set_option maxRecDepth 100000 in
set_option maxHeartbeats 8000000 in
theorem add_one (b i : Nat) : (⟨b, 0, none⟩ : Addr).add (i * 1 + 0) = ⟨b, i, none⟩ := by
 unfold Addr.add
 split
 ·rename_i h
  have : i = 0 := by omega
  subst this; rfl
 ·simp
/-- What a walk tells at its end. -/
theorem WS.tells {w : World} {base : Nat} {f : Wf} {vt : Value} {st : St} (h : WS w base f vt st) : SlK (Rd.slice rdTry) (fun k => base ≤ k) w st.out (.slice (some ⟨f.ob, 0, none⟩) f.n f.n) ∧ SlK Rd.bool (fun k => base ≤ k) w st.seen (.slice (some ⟨f.sb, 0, none⟩) f.n f.n) := by
 obtain ⟨n1, n2, n3, b1, b2, b3⟩ := h.ne
 obtain ⟨outv, o1, o2, o3⟩ := h.ho
 have hn := h.hn
 constructor
 ·refine ⟨some ⟨f.ob, 0, none⟩, f.n, by rw [h.lo], by rw [h.lo]; exact Nat.le_refl _, by omega, by simp, by rw [h.lo], by rw [h.lo]; omega, fun _ => ⟨_, rfl, b3, (Array.getElem?_eq_some_iff.1 o1).1, fun i l hi => ?_⟩⟩
  have hil : i < outv.length := by rw [o2, ← h.lo]; exact (List.getElem?_eq_some_iff.1 hi).1
  refine ⟨[outv[i]], (Rd.slice rdTry).mono (fun k hk => ?_) (o3 i outv[i] l (List.getElem?_eq_getElem hil) hi), fun j u hj => ?_⟩
  ·have := hk.1; omega
  ·obtain ⟨rfl, rfl⟩ : j = 0 ∧ u = outv[i] := by
    cases j with
    | zero => simp at hj; exact ⟨rfl, hj.symm⟩
    | succ j => simp at hj
   have e : (⟨f.ob, 0, none⟩ : Addr).add (i * (Rd.slice rdTry).sz + 0) = ⟨f.ob, i, none⟩ := add_one f.ob i
   rw [e, cell_of_row w f.ob i _ _ _ o1]
   simp [hil]
 ·refine ⟨some ⟨f.sb, 0, none⟩, f.n, by rw [h.ls], by rw [h.ls]; exact Nat.le_refl _, by omega, by simp, by rw [h.ls], by rw [h.ls]; omega, fun _ => ⟨_, rfl, b2, (Array.getElem?_eq_some_iff.1 h.hs).1, fun i l hi => ?_⟩⟩
  have hil := (List.getElem?_eq_some_iff.1 hi).1
  refine ⟨[.bool l], rfl, fun j u hj => ?_⟩
  obtain ⟨rfl, rfl⟩ : j = 0 ∧ u = .bool l := by
   cases j with
   | zero => simp at hj; exact ⟨rfl, hj.symm⟩
   | succ j => simp at hj
  have e : (⟨f.sb, 0, none⟩ : Addr).add (i * Rd.bool.sz + 0) = ⟨f.sb, i, none⟩ := add_one f.sb i
  rw [e, cell_of_row w f.sb i _ _ _ h.hs]
  simp [hi]
theorem tries_any (w : World) (ok : Nat → Prop) (fn : Fn) (v1 : Value) (A : Option Addr) (c : Nat) (hcode : rdOrd.C ok w A fn.code.length fn.code) (hj : jumpsOk fn.code) (hn : fn.code.length ≤ 600) :
  Calls Tryz.prog 116 #[.agg #[.int .i64 fn.params, .int .i64 fn.regs, .bool fn.gen, v1, .slice A fn.code.length c]] w fun e w' => ∃ vo vs, e = .returned (.tuple #[vo, vs, .bool (!(triesF fn.code).bad)]) ∧ (SlK (Rd.slice rdTry) (fun k => w.heap.size ≤ k) w' (triesF fn.code).out vo ∧ SlK Rd.bool (fun k => w.heap.size ≤ k) w' (triesF fn.code).seen vs) ∧ Below w.heap.size w w' := by
 have HC : Hid (∀ w', Below w.heap.size w w' → rdOrd.CB w.heap.size w' A fn.code.length fn.code) := Lib.hid (fun w' hb => ((hcode.bound).mono (fun k hk => hk.2)).below hb)
 have HJ := Lib.hid hj
 have mk1 := make_seen fn.code.length hn
 have mk2 := make_out fn.code.length hn
 have HR := Lib.hid (show triesF fn.code = runF fn.code.length fn.code (2 * fn.code.length + 2) (comeF fn.code.length (init fn.code.length) 0 []) from rfl)
 generalize triesF fn.code = R at HR ⊢
 generalize hcl : fn.code.length = n at *
 clear hcode hj
 go_enter Tryz.func116, Tryz.ntmps116
 go_wp2_with fail
 go_region
 ·obtain ⟨W, hW⟩ : ∃ W, W = ((((w.alloc (.cells #[.int .i64 fn.params, .int .i64 fn.regs, .bool fn.gen, v1, .slice A n c] 104)).alloc (.cells (Array.replicate n (Value.bool false)) 4)).alloc (.cells (Array.replicate n (Value.slice none 0 0)) 59)).alloc (.cells #[.int .i64 fn.params, .int .i64 fn.regs, .bool fn.gen, v1, .slice A n c, .slice (some ⟨w.heap.size + 1, 0, none⟩) n n, .slice (some ⟨w.heap.size + 1 + 1, 0, none⟩) n n, .slice none 0 0, .bool false] 248)).drew := ⟨_, rfl⟩
  rw [← hW]
  obtain ⟨q1, q2, q3, qB⟩ := four w (.cells #[.int .i64 fn.params, .int .i64 fn.regs, .bool fn.gen, v1, .slice A n c] 104) (.cells (Array.replicate n (Value.bool false)) 4) (.cells (Array.replicate n (Value.slice none 0 0)) 59) (.cells #[.int .i64 fn.params, .int .i64 fn.regs, .bool fn.gen, v1, .slice A n c, .slice (some ⟨w.heap.size + 1, 0, none⟩) n n, .slice (some ⟨w.heap.size + 1 + 1, 0, none⟩) n n, .slice none 0 0, .bool false] 248)
  rw [← hW] at q1 q2 q3 qB
  have hWS : WS W w.heap.size ⟨n, w.heap.size + 1 + 1 + 1, w.heap.size + 1, w.heap.size + 1 + 1, fn.params, fn.regs, fn.gen, v1, A, c⟩ (.slice none 0 0) (init n) := WS.init W w.heap.size ⟨n, w.heap.size + 1 + 1 + 1, w.heap.size + 1, w.heap.size + 1 + 1, fn.params, fn.regs, fn.gen, v1, A, c⟩ hn (by simp; omega) q3 q1 q2
  have hsz := qB.size
  clear hW q1 q2 q3 mk1 mk2
  generalize w.heap.size + 1 + 1 + 1 = wb at hWS ⊢
  generalize w.heap.size + 1 + 1 = ob at hWS ⊢
  generalize w.heap.size + 1 = sb at hWS ⊢
  obtain ⟨f, hf⟩ : ∃ f : Wf, f = ⟨n, wb, sb, ob, fn.params, fn.regs, fn.gen, v1, A, c⟩ := ⟨_, rfl⟩
  rw [← hf] at hWS
  have f1 : f.wb = wb := by rw [hf]
  have f2 : f.n = n := by rw [hf]
  have f3 : f.A5 = A := by rw [hf]
  have HCM := come_any W w.heap.size hsz f _ _ hWS 0 (by omega) (.slice none 0 0) [] ⟨none, 0, rfl, Nat.le_refl _, by omega, fun _ => rfl, Rd.C.nil _ _ _ _⟩ (by simp [init])
  rw [f1, f2] at HCM
  have ok0 := comeF_ok (init_ok n) 0 (by omega) []
  have lf0 : (init n).left = 2 * n := by simp [init, St.left]
  obtain ⟨st0, hst0⟩ : ∃ st0, st0 = comeF n (init n) 0 [] := ⟨_, rfl⟩
  rw [← hst0] at HCM ok0 HR
  have HST := Lib.hid ok0
  have HCM' := Lib.hid HCM
  have HF := Lib.hid hf
  have HB := Lib.hid qB
  clear hWS HCM ok0 hst0 hf qB hsz
  go_wp2_with fail
  refine (HCM'.out).mono ?_
  rintro e w2 ⟨rfl, hb, vt2, hk, hws⟩
  have hI : WS w2 w.heap.size f vt2 st0 ∧ Below w.heap.size w w2 := ⟨hws, HB.out.trans hb⟩
  have HI := Lib.hid hI
  clear hb hk hws hI HCM'
  go_wp2_with fail
  go_loopw [] (fun wr => ∃ (vt : Value) (st : St) (k : Nat), Hid (WS wr w.heap.size f vt st) ∧ Hid (Below w.heap.size w wr) ∧ Hid (st.Ok n) ∧ Hid (st.left + k ≤ 2 * n) ∧ Hid (∀ m, runF n fn.code (m + k) st0 = runF n fn.code m st)) (fun wr => leftW f wr)
  case atStart => exact ⟨vt2, st0, 0, Lib.hid HI.out.1, Lib.hid HI.out.2, Lib.hid HST.out.1, Lib.hid (by have := HST.out.2; rw [lf0] at this; simpa using this), Lib.hid (fun m => rfl)⟩
  case round =>
   obtain ⟨vt, st, k, HW, HBl, HO, HLe, HRu⟩ := hrel
   obtain ⟨A', c', hvt⟩ : ∃ A' c', vt = .slice A' st.todo.length c' := by
    obtain ⟨A', c', hv, _⟩ := HW.out.own.reads (by decide)
    injection hv with hv
    exact ⟨_, _, hv⟩
   subst hvt
   have e5 : wr.cell? ⟨f.wb, 5, none⟩ = some (.slice (some ⟨f.sb, 0, none⟩) f.n f.n) := cell_at HW.out.hw 5 rfl
   have e6 : wr.cell? ⟨f.wb, 6, none⟩ = some (.slice (some ⟨f.ob, 0, none⟩) f.n f.n) := cell_at HW.out.hw 6 rfl
   have e7 : wr.cell? ⟨f.wb, 7, none⟩ = some (.slice A' st.todo.length c') := cell_at HW.out.hw 7 rfl
   have e8 : wr.cell? ⟨f.wb, 8, none⟩ = some (.bool st.bad) := cell_at HW.out.hw 8 rfl
   have fr : wr.frozen? ⟨f.wb, 7, none⟩ = false := free_at HW.out.hw 7
   have hct : st.todo.length ≤ n := by have := HO.out.ct; omega
   rw [f1] at e5 e6 e7 e8 fr
   have fin : (st.todo = [] ∨ st.bad = true) → R = st := fun hd => by
    have h1 := HRu.out (2 * n + 2 - k)
    have h2 := HLe.out
    rw [show 2 * n + 2 - k + k = 2 * n + 2 by omega, ← HR.out, runF_done hd] at h1
    exact h1
   have HFin := Lib.hid fin
   clear fin
   by_cases ht : st.todo = []
   ·have hR := HFin.out (.inl ht)
    have hl0 : st.todo.length = 0 := by rw [ht]; rfl
    rw [hl0] at e7
    have HRR := Lib.hid hR
    clear hR ht hl0
    go_wp2_with fail
    go_quiet (fail)
    go_wp2_with fail
    refine bodyPost_ret (v := .tuple #[.slice (some ⟨f.ob, 0, none⟩) f.n f.n, .slice (some ⟨f.sb, 0, none⟩) f.n f.n, .bool (!st.bad)]) (by simp [results, Tryz.results116, go_sem, f2]) rfl ⟨_, _, by rw [HRR.out], by rw [HRR.out]; exact (HW.out.same (fun _ _ => rfl)).tells, ?_⟩
    exact ⟨HBl.out.os, HBl.out.tape, HBl.out.output, HBl.out.size, HBl.out.block⟩
   ·obtain ⟨m, hm⟩ : ∃ m, st.todo.length = m + 1 := ⟨st.todo.length - 1, by have := List.length_pos_iff.2 ht; omega⟩
    cases hbd : st.bad with
    | true =>
     have HRR := Lib.hid (HFin.out (.inr hbd))
     rw [hm] at e7
     rw [hbd] at e8
     go_wp2_with fail
     go_quiet (fail)
     go_wp2_with fail
     refine bodyPost_ret (v := .tuple #[.slice (some ⟨f.ob, 0, none⟩) f.n f.n, .slice (some ⟨f.sb, 0, none⟩) f.n f.n, .bool false]) (by simp [results, Tryz.results116, go_sem, f2]) rfl ⟨_, _, by rw [HRR.out, hbd]; rfl, by rw [HRR.out]; exact (HW.out.same (fun _ _ => rfl)).tells, ?_⟩
     exact ⟨HBl.out.os, HBl.out.tape, HBl.out.output, HBl.out.size, HBl.out.block⟩
    | false =>
     obtain ⟨x, hx⟩ : ∃ x, st.todo[m]? = some x := ⟨_, List.getElem?_eq_getElem (by omega)⟩
     obtain ⟨A2, c2, hv2, _, _, _, hC2⟩ := HW.out.own.reads (by decide)
     injection hv2 with hv2
     injection hv2 with hv2 _ hv3
     subst hv2 hv3
     obtain ⟨ad, cs, rfl, _, _, ⟨rfl, hxi⟩, hc0, _⟩ := hC2.elem m x hx
     have ex : wr.cell? (ad.add m) = some (.int .i64 x) := by have := hc0 _ rfl; simpa [Rd.int] using this
     rw [hm] at e7
     rw [hbd] at e8
     clear hc0 hC2
     have htd := HO.out.td x (List.mem_of_getElem? hx)
     obtain ⟨i, rfl⟩ := Int.eq_ofNat_of_zero_le htd.1
     have hgl : st.todo.getLast?.getD 0 = (i : Int) := by rw [List.getLast?_eq_getElem?, hm, Nat.add_sub_cancel, hx]; rfl
     have htf : turnF n fn.code st = fromF n fn.code { st with todo := st.todo.dropLast } i := by unfold turnF; rw [hgl, Int.toNat_natCast]
     have HP : Hid (∀ q, Below w.heap.size wr ((wr.drewN q).setCell ⟨wb, 7, none⟩ (.slice (some ad) m c')) ∧ WS ((wr.drewN q).setCell ⟨wb, 7, none⟩ (.slice (some ad) m c')) w.heap.size f (.slice (some ad) m c') { st with todo := st.todo.dropLast }) := Lib.hid (fun q => by
      have h0 := HW.out.same (w1 := wr.drewN q) (fun _ _ => rfl)
      have h1 := h0.pop ht
      have h2 := h0.below 7 (.slice (some ad) m c')
      rw [hm, Nat.add_sub_cancel, f1] at h1
      rw [f1] at h2
      exact ⟨⟨h2.os, h2.tape, h2.output, h2.size, h2.block⟩, h1⟩)
     have HT := Lib.hid (And.intro htf (And.intro (turnF_ok HO.out HJ.out ht) (show runF n fn.code 1 st = turnF n fn.code st by simp [runF, ht, hbd])))
     have HOld := Lib.hid (And.intro HW.out.left (And.intro ht hbd))
     have HI2 := Lib.hid htd.2
     clear hgl htf htd hx hxi
     go_wp2_with fail
     go_quiet (fail)
     go_wp2_with fail
     go_region
     obtain ⟨W3, hW3⟩ : ∃ W3, W3 = (wr.drewN (nq + 1)).setCell ⟨wb, 7, none⟩ (.slice (some ad) m c') := ⟨_, rfl⟩
     rw [← hW3]
     obtain ⟨pB, pW⟩ := HP.out (nq + 1)
     rw [← hW3] at pB pW
     have pB2 := HBl.out.trans pB
     have HFR : Hid (Calls Tryz.prog 165 #[.pointer (some ⟨wb, 0, none⟩), .int .i64 i] W3 fun e w' => e = .returned (.tuple #[]) ∧ Below w.heap.size W3 w' ∧ ∃ vt', Kept f W3 w' (.slice (some ad) m c') vt' ∧ WS w' w.heap.size f vt' (fromF n fn.code { st with todo := st.todo.dropLast } i)) := Lib.hid (by
      have := from_any W3 w.heap.size pB2.size f _ _ pW (by have := HO.out.ct; simp only [List.length_dropLast]; omega) i (by rw [f2]; have := HI2.out; omega) fn.code (by rw [f3, f2]; exact HC.out _ pB2) HJ.out HO.out.l20
      rwa [f1, f2] at this)
     have HB3 := Lib.hid pB2
     clear pB pW pB2 hW3 e5 e6 e7 e8 fr ex
     go_wp2_with fail
     refine (HFR.out).mono ?_
     rintro e w4 ⟨rfl, hb, vt3, hk, hws⟩
     have HN := Lib.hid (And.intro hws (HB3.out.trans hb))
     clear hb hk hws
     go_wp2_with fail
     go_roundw
     case rel =>
      obtain ⟨t1, ⟨t2, t3⟩, t4⟩ := HT.out
      refine ⟨vt3, turnF n fn.code st, k + 1, Lib.hid (by rw [t1]; exact HN.out.1), Lib.hid HN.out.2, Lib.hid t2, Lib.hid (by have := HLe.out; omega), Lib.hid (fun q => ?_)⟩
      have h1 := HRu.out (q + 1)
      rw [show q + (k + 1) = q + 1 + k by omega, h1]
      simp only [runF, HOld.out.2.1, HOld.out.2.2]
      simp
     case measure =>
      obtain ⟨t1, ⟨t2, t3⟩, t4⟩ := HT.out
      rw [HOld.out.1, HN.out.1.left, ← t1]
      exact t3
 ·obtain ⟨W, hW⟩ : ∃ W, W = ((((w.alloc (.cells #[.int .i64 fn.params, .int .i64 fn.regs, .bool fn.gen, v1, .slice A n c] 104)).alloc (.cells (Array.replicate n (Value.slice none 0 0)) 59)).alloc (.cells (Array.replicate n (Value.bool false)) 4)).alloc (.cells #[.int .i64 fn.params, .int .i64 fn.regs, .bool fn.gen, v1, .slice A n c, .slice (some ⟨w.heap.size + 1 + 1, 0, none⟩) n n, .slice (some ⟨w.heap.size + 1, 0, none⟩) n n, .slice none 0 0, .bool false] 248)).drew := ⟨_, rfl⟩
  rw [← hW]
  obtain ⟨q1, q2, q3, qB⟩ := four w (.cells #[.int .i64 fn.params, .int .i64 fn.regs, .bool fn.gen, v1, .slice A n c] 104) (.cells (Array.replicate n (Value.slice none 0 0)) 59) (.cells (Array.replicate n (Value.bool false)) 4) (.cells #[.int .i64 fn.params, .int .i64 fn.regs, .bool fn.gen, v1, .slice A n c, .slice (some ⟨w.heap.size + 1 + 1, 0, none⟩) n n, .slice (some ⟨w.heap.size + 1, 0, none⟩) n n, .slice none 0 0, .bool false] 248)
  rw [← hW] at q1 q2 q3 qB
  have hWS : WS W w.heap.size ⟨n, w.heap.size + 1 + 1 + 1, w.heap.size + 1 + 1, w.heap.size + 1, fn.params, fn.regs, fn.gen, v1, A, c⟩ (.slice none 0 0) (init n) := WS.init W w.heap.size ⟨n, w.heap.size + 1 + 1 + 1, w.heap.size + 1 + 1, w.heap.size + 1, fn.params, fn.regs, fn.gen, v1, A, c⟩ hn (by simp; omega) q3 q2 q1
  have hsz := qB.size
  clear hW q1 q2 q3 mk1 mk2
  generalize w.heap.size + 1 + 1 + 1 = wb at hWS ⊢
  generalize w.heap.size + 1 + 1 = sb at hWS ⊢
  generalize w.heap.size + 1 = ob at hWS ⊢
  obtain ⟨f, hf⟩ : ∃ f : Wf, f = ⟨n, wb, sb, ob, fn.params, fn.regs, fn.gen, v1, A, c⟩ := ⟨_, rfl⟩
  rw [← hf] at hWS
  have f1 : f.wb = wb := by rw [hf]
  have f2 : f.n = n := by rw [hf]
  have f3 : f.A5 = A := by rw [hf]
  have HCM := come_any W w.heap.size hsz f _ _ hWS 0 (by omega) (.slice none 0 0) [] ⟨none, 0, rfl, Nat.le_refl _, by omega, fun _ => rfl, Rd.C.nil _ _ _ _⟩ (by simp [init])
  rw [f1, f2] at HCM
  have ok0 := comeF_ok (init_ok n) 0 (by omega) []
  have lf0 : (init n).left = 2 * n := by simp [init, St.left]
  obtain ⟨st0, hst0⟩ : ∃ st0, st0 = comeF n (init n) 0 [] := ⟨_, rfl⟩
  rw [← hst0] at HCM ok0 HR
  have HST := Lib.hid ok0
  have HCM' := Lib.hid HCM
  have HF := Lib.hid hf
  have HB := Lib.hid qB
  clear hWS HCM ok0 hst0 hf qB hsz
  go_wp2_with fail
  refine (HCM'.out).mono ?_
  rintro e w2 ⟨rfl, hb, vt2, hk, hws⟩
  have hI : WS w2 w.heap.size f vt2 st0 ∧ Below w.heap.size w w2 := ⟨hws, HB.out.trans hb⟩
  have HI := Lib.hid hI
  clear hb hk hws hI HCM'
  go_wp2_with fail
  go_loopw [] (fun wr => ∃ (vt : Value) (st : St) (k : Nat), Hid (WS wr w.heap.size f vt st) ∧ Hid (Below w.heap.size w wr) ∧ Hid (st.Ok n) ∧ Hid (st.left + k ≤ 2 * n) ∧ Hid (∀ m, runF n fn.code (m + k) st0 = runF n fn.code m st)) (fun wr => leftW f wr)
  case atStart => exact ⟨vt2, st0, 0, Lib.hid HI.out.1, Lib.hid HI.out.2, Lib.hid HST.out.1, Lib.hid (by have := HST.out.2; rw [lf0] at this; simpa using this), Lib.hid (fun m => rfl)⟩
  case round =>
   obtain ⟨vt, st, k, HW, HBl, HO, HLe, HRu⟩ := hrel
   obtain ⟨A', c', hvt⟩ : ∃ A' c', vt = .slice A' st.todo.length c' := by
    obtain ⟨A', c', hv, _⟩ := HW.out.own.reads (by decide)
    injection hv with hv
    exact ⟨_, _, hv⟩
   subst hvt
   have e5 : wr.cell? ⟨f.wb, 5, none⟩ = some (.slice (some ⟨f.sb, 0, none⟩) f.n f.n) := cell_at HW.out.hw 5 rfl
   have e6 : wr.cell? ⟨f.wb, 6, none⟩ = some (.slice (some ⟨f.ob, 0, none⟩) f.n f.n) := cell_at HW.out.hw 6 rfl
   have e7 : wr.cell? ⟨f.wb, 7, none⟩ = some (.slice A' st.todo.length c') := cell_at HW.out.hw 7 rfl
   have e8 : wr.cell? ⟨f.wb, 8, none⟩ = some (.bool st.bad) := cell_at HW.out.hw 8 rfl
   have fr : wr.frozen? ⟨f.wb, 7, none⟩ = false := free_at HW.out.hw 7
   have hct : st.todo.length ≤ n := by have := HO.out.ct; omega
   rw [f1] at e5 e6 e7 e8 fr
   have fin : (st.todo = [] ∨ st.bad = true) → R = st := fun hd => by
    have h1 := HRu.out (2 * n + 2 - k)
    have h2 := HLe.out
    rw [show 2 * n + 2 - k + k = 2 * n + 2 by omega, ← HR.out, runF_done hd] at h1
    exact h1
   have HFin := Lib.hid fin
   clear fin
   by_cases ht : st.todo = []
   ·have hR := HFin.out (.inl ht)
    have hl0 : st.todo.length = 0 := by rw [ht]; rfl
    rw [hl0] at e7
    have HRR := Lib.hid hR
    clear hR ht hl0
    go_wp2_with fail
    go_quiet (fail)
    go_wp2_with fail
    refine bodyPost_ret (v := .tuple #[.slice (some ⟨f.ob, 0, none⟩) f.n f.n, .slice (some ⟨f.sb, 0, none⟩) f.n f.n, .bool (!st.bad)]) (by simp [results, Tryz.results116, go_sem, f2]) rfl ⟨_, _, by rw [HRR.out], by rw [HRR.out]; exact (HW.out.same (fun _ _ => rfl)).tells, ?_⟩
    exact ⟨HBl.out.os, HBl.out.tape, HBl.out.output, HBl.out.size, HBl.out.block⟩
   ·obtain ⟨m, hm⟩ : ∃ m, st.todo.length = m + 1 := ⟨st.todo.length - 1, by have := List.length_pos_iff.2 ht; omega⟩
    cases hbd : st.bad with
    | true =>
     have HRR := Lib.hid (HFin.out (.inr hbd))
     rw [hm] at e7
     rw [hbd] at e8
     go_wp2_with fail
     go_quiet (fail)
     go_wp2_with fail
     refine bodyPost_ret (v := .tuple #[.slice (some ⟨f.ob, 0, none⟩) f.n f.n, .slice (some ⟨f.sb, 0, none⟩) f.n f.n, .bool false]) (by simp [results, Tryz.results116, go_sem, f2]) rfl ⟨_, _, by rw [HRR.out, hbd]; rfl, by rw [HRR.out]; exact (HW.out.same (fun _ _ => rfl)).tells, ?_⟩
     exact ⟨HBl.out.os, HBl.out.tape, HBl.out.output, HBl.out.size, HBl.out.block⟩
    | false =>
     obtain ⟨x, hx⟩ : ∃ x, st.todo[m]? = some x := ⟨_, List.getElem?_eq_getElem (by omega)⟩
     obtain ⟨A2, c2, hv2, _, _, _, hC2⟩ := HW.out.own.reads (by decide)
     injection hv2 with hv2
     injection hv2 with hv2 _ hv3
     subst hv2 hv3
     obtain ⟨ad, cs, rfl, _, _, ⟨rfl, hxi⟩, hc0, _⟩ := hC2.elem m x hx
     have ex : wr.cell? (ad.add m) = some (.int .i64 x) := by have := hc0 _ rfl; simpa [Rd.int] using this
     rw [hm] at e7
     rw [hbd] at e8
     clear hc0 hC2
     have htd := HO.out.td x (List.mem_of_getElem? hx)
     obtain ⟨i, rfl⟩ := Int.eq_ofNat_of_zero_le htd.1
     have hgl : st.todo.getLast?.getD 0 = (i : Int) := by rw [List.getLast?_eq_getElem?, hm, Nat.add_sub_cancel, hx]; rfl
     have htf : turnF n fn.code st = fromF n fn.code { st with todo := st.todo.dropLast } i := by unfold turnF; rw [hgl, Int.toNat_natCast]
     have HP : Hid (∀ q, Below w.heap.size wr ((wr.drewN q).setCell ⟨wb, 7, none⟩ (.slice (some ad) m c')) ∧ WS ((wr.drewN q).setCell ⟨wb, 7, none⟩ (.slice (some ad) m c')) w.heap.size f (.slice (some ad) m c') { st with todo := st.todo.dropLast }) := Lib.hid (fun q => by
      have h0 := HW.out.same (w1 := wr.drewN q) (fun _ _ => rfl)
      have h1 := h0.pop ht
      have h2 := h0.below 7 (.slice (some ad) m c')
      rw [hm, Nat.add_sub_cancel, f1] at h1
      rw [f1] at h2
      exact ⟨⟨h2.os, h2.tape, h2.output, h2.size, h2.block⟩, h1⟩)
     have HT := Lib.hid (And.intro htf (And.intro (turnF_ok HO.out HJ.out ht) (show runF n fn.code 1 st = turnF n fn.code st by simp [runF, ht, hbd])))
     have HOld := Lib.hid (And.intro HW.out.left (And.intro ht hbd))
     have HI2 := Lib.hid htd.2
     clear hgl htf htd hx hxi
     go_wp2_with fail
     go_quiet (fail)
     go_wp2_with fail
     go_region
     obtain ⟨W3, hW3⟩ : ∃ W3, W3 = (wr.drewN (nq + 1)).setCell ⟨wb, 7, none⟩ (.slice (some ad) m c') := ⟨_, rfl⟩
     rw [← hW3]
     obtain ⟨pB, pW⟩ := HP.out (nq + 1)
     rw [← hW3] at pB pW
     have pB2 := HBl.out.trans pB
     have HFR : Hid (Calls Tryz.prog 165 #[.pointer (some ⟨wb, 0, none⟩), .int .i64 i] W3 fun e w' => e = .returned (.tuple #[]) ∧ Below w.heap.size W3 w' ∧ ∃ vt', Kept f W3 w' (.slice (some ad) m c') vt' ∧ WS w' w.heap.size f vt' (fromF n fn.code { st with todo := st.todo.dropLast } i)) := Lib.hid (by
      have := from_any W3 w.heap.size pB2.size f _ _ pW (by have := HO.out.ct; simp only [List.length_dropLast]; omega) i (by rw [f2]; have := HI2.out; omega) fn.code (by rw [f3, f2]; exact HC.out _ pB2) HJ.out HO.out.l20
      rwa [f1, f2] at this)
     have HB3 := Lib.hid pB2
     clear pB pW pB2 hW3 e5 e6 e7 e8 fr ex
     go_wp2_with fail
     refine (HFR.out).mono ?_
     rintro e w4 ⟨rfl, hb, vt3, hk, hws⟩
     have HN := Lib.hid (And.intro hws (HB3.out.trans hb))
     clear hb hk hws
     go_wp2_with fail
     go_roundw
     case rel =>
      obtain ⟨t1, ⟨t2, t3⟩, t4⟩ := HT.out
      refine ⟨vt3, turnF n fn.code st, k + 1, Lib.hid (by rw [t1]; exact HN.out.1), Lib.hid HN.out.2, Lib.hid t2, Lib.hid (by have := HLe.out; omega), Lib.hid (fun q => ?_)⟩
      have h1 := HRu.out (q + 1)
      rw [show q + (k + 1) = q + 1 + k by omega, h1]
      simp only [runF, HOld.out.2.1, HOld.out.2.2]
      simp
     case measure =>
      obtain ⟨t1, ⟨t2, t3⟩, t4⟩ := HT.out
      rw [HOld.out.1, HN.out.1.left, ← t1]
      exact t3
end Go.Proofs.YtkonkblfckhcbaaGreatDoor
namespace Go.Proofs.YtkonkblfckhcbaaGreatDoor
set_option linter.unusedVariables false
set_option linter.unusedSimpArgs false
open Go.RowKit

def lkOf (p : Prog) (f : Fn) : Lk := ⟨p.fns.length, p.consts.length, p.texts.length, f.regs, f.caught.length, f.code.length⟩
def ordersF (p : Prog) (f : Fn) : Bool := (List.range f.code.length).all fun i => match f.code[i]? with | some o => orderF p.fns (lkOf p f) f.gen (i : Int) o | none => true
def headF (f : Fn) : Bool := decide (0 ≤ f.params) && decide (1 ≤ f.regs) && decide (f.params ≤ f.regs)
def functionF (p : Prog) (f : Fn) : Bool := headF f && ordersF p f && !(triesF f.code).bad

theorem form_13 {a b c : UInt8} (h : formF 13 = some (a, b, c)) : a = 97 := by
 have h : some _ = some (a, b, c) := h
 injection h with h
 injection h with ha h
 exact ha.symm
theorem form_14 {a b c : UInt8} (h : formF 14 = some (a, b, c)) : a = 97 := by
 have h : some _ = some (a, b, c) := h
 injection h with h
 injection h with ha h
 exact ha.symm
theorem form_15 {a b c : UInt8} (h : formF 15 = some (a, b, c)) : b = 97 := by
 have h : some _ = some (a, b, c) := h
 injection h with h
 injection h with ha h
 injection h with hb hc
 exact hb.symm
theorem form_30 {a b c : UInt8} (h : formF 30 = some (a, b, c)) : b = 97 := by
 have h : some _ = some (a, b, c) := h
 injection h with h
 injection h with ha h
 injection h with hb hc
 exact hb.symm
theorem order_names {fns : List Fn} {l : Lk} {gen : Bool} {at_ : Int} {i : Ord} (h : orderF fns l gen at_ i = true) : ∃ a b c, formF i.op = some (a, b, c) ∧ namesF l a i.a = true ∧ namesF l b i.b = true ∧ namesF l c i.c = true := by
 unfold orderF at h
 cases hf : formF i.op with
 | none => rw [hf] at h; simp at h
 | some F =>
  obtain ⟨a, b, c⟩ := F
  rw [hf] at h
  simp only [Bool.and_eq_true] at h
  exact ⟨a, b, c, rfl, h.1.1.1.2, h.1.1.2, h.1.2⟩
theorem order_jumps {fns : List Fn} {l : Lk} {gen : Bool} {at_ : Int} {i : Ord} (h : orderF fns l gen at_ i = true) : ((i.op = 13 ∨ i.op = 14) → 0 ≤ i.a) ∧ ((i.op = 15 ∨ i.op = 30) → 0 ≤ i.b) := by
 obtain ⟨a, b, c, hf, ha, hb, hc⟩ := order_names h
 refine ⟨fun ho => ?_, fun ho => ?_⟩
 ·have h97 : a = 97 := by
   rcases ho with ho | ho
   ·rw [ho] at hf; exact form_13 hf
   ·rw [ho] at hf; exact form_14 hf
  subst h97
  have h1 : withinF i.a 0 ((l.no : Int) - 1) = true := ha
  exact (within_iff.1 h1).1
 ·have h97 : b = 97 := by
   rcases ho with ho | ho
   ·rw [ho] at hf; exact form_15 hf
   ·rw [ho] at hf; exact form_30 hf
  subst h97
  have h1 : withinF i.b 0 ((l.no : Int) - 1) = true := hb
  exact (within_iff.1 h1).1
theorem orders_at {p : Prog} {f : Fn} : ordersF p f = true ↔ ∀ (i : Nat) (o : Ord), f.code[i]? = some o → orderF p.fns (lkOf p f) f.gen (i : Int) o = true := by
 unfold ordersF
 rw [List.all_eq_true]
 constructor
 ·intro h i o ho
  have := h i (by rw [List.mem_range]; exact (List.getElem?_eq_some_iff.1 ho).1)
  rwa [ho] at this
 ·intro h i hi
  cases ho : f.code[i]? with
  | none => rfl
  | some o => exact h i o ho
theorem orders_jumps {p : Prog} {f : Fn} (h : ordersF p f = true) : jumpsOk f.code := fun o ho => by
 obtain ⟨i, hi, e⟩ := List.mem_iff_getElem.1 ho
 exact order_jumps (orders_at.1 h i o (by rw [List.getElem?_eq_getElem hi, e]))
end Go.Proofs.YtkonkblfckhcbaaGreatDoor
namespace Go.Proofs.YtkonkblfckhcbaaGreatDoor
set_option linter.unusedVariables false
set_option linter.unusedSimpArgs false
open Go.RowKit
theorem C_map {α β : Type} {d : Rd α} {d' : Rd β} (φ : α → β) (hs : d.sz = d'.sz) {ok : Nat → Prop} {w : World} (hK : ∀ x cs, d.K ok w x cs → d'.K ok w (φ x) cs) {A : Option Addr} {n : Nat} {xs : List α} (h : d.C ok w A n xs) : d'.C ok w A n (xs.map φ) :=
 ⟨by simpa using h.1, h.2.1, fun hn => by
  obtain ⟨ad, e, h1, h2, h3⟩ := h.2.2 hn
  refine ⟨ad, e, h1, h2, fun i x hi => ?_⟩
  rw [List.getElem?_map] at hi
  obtain ⟨y, hy, rfl⟩ := Option.map_eq_some_iff.1 hi
  obtain ⟨cs, hk, hc⟩ := h3 i y hy
  exact ⟨cs, hK y cs hk, fun j u hj => by rw [← hs]; exact hc j u hj⟩⟩
theorem sl_map {α β : Type} {d : Rd α} {d' : Rd β} (φ : α → β) (hs : d.sz = d'.sz) {ok : Nat → Prop} {w : World} (hK : ∀ x cs, d.K ok w x cs → d'.K ok w (φ x) cs) {xs : List α} {v : Value} (h : SlK d ok w xs v) : SlK d' ok w (xs.map φ) v := by
 obtain ⟨A, c, hv, h1, h2, h3, hC⟩ := h
 exact ⟨A, c, by simpa using hv, by simpa using h1, h2, by simpa using h3, by simpa using C_map φ hs hK hC⟩
def toOrd (o : EOrd) : Ord := ⟨o.1, o.2.1, o.2.2.1, o.2.2.2.1, o.2.2.2.2⟩
def toFn (f : EFn) : Fn := ⟨f.1, f.2.1, f.2.2.1, f.2.2.2.1, f.2.2.2.2.map toOrd⟩
def toVal (v : EVal) : Val := ⟨v.1, v.2⟩
def toProg (p : EProg) : Prog := ⟨p.1.map toFn, p.2.1.map toVal, p.2.2⟩
theorem tOrd_K {ok : Nat → Prop} {w : World} (x : EOrd) (cs : List Value) (h : tOrd.rd.K ok w x cs) : rdOrd.K ok w (toOrd x) cs := by
 obtain ⟨_, _, rfl, ⟨rfl, i0⟩, _, _, rfl, ⟨rfl, i1⟩, _, _, rfl, ⟨rfl, i2⟩, _, _, rfl, ⟨rfl, i3⟩, ⟨rfl, i4⟩⟩ := h
 exact ⟨rfl, i64_iff.1 i0, i64_iff.1 i1, i64_iff.1 i2, i64_iff.1 i3, i64_iff.1 i4⟩
theorem tI_K {ok : Nat → Prop} {w : World} (x : Int) (cs : List Value) (h : tI.rd.K ok w x cs) : Rd.int.K ok w x cs := ⟨h.1, i64_iff.1 h.2⟩
theorem ints_of {ok : Nat → Prop} {w : World} {xs : List Int} {v : Value} (h : SlK tI.rd ok w xs v) : SlK Rd.int ok w xs v := by
 have := sl_map (d := tI.rd) (d' := Rd.int) id rfl tI_K h
 simpa using this
theorem tFn_K {ok : Nat → Prop} {w : World} (x : EFn) (cs : List Value) (h : tFn.rd.K ok w x cs) : rdFn.K ok w (toFn x) cs := by
 obtain ⟨_, _, rfl, ⟨rfl, i0⟩, _, _, rfl, ⟨rfl, i1⟩, _, _, rfl, h2, _, _, rfl, h3, h4⟩ := h
 obtain rfl := h2
 obtain ⟨v3, rfl, hv3⟩ := SlK_of h3
 obtain ⟨v4, rfl, hv4⟩ := SlK_of h4
 exact ⟨v3, v4, rfl, ⟨i64_iff.1 i0, i64_iff.1 i1⟩, ints_of hv3, sl_map toOrd rfl tOrd_K hv4⟩
theorem fns_of {ok : Nat → Prop} {w : World} {xs : List EFn} {v : Value} (h : SlK tFn.rd ok w xs v) : SlK rdFn ok w (xs.map toFn) v := sl_map toFn rfl tFn_K h
theorem prog_vals {σ : Sg} {w : World} {p : EProg} {x : Value} (h : CA σ w (.agg (tProg.enc p)) x) : ∃ A1 A2 A3 c1 c2 c3, x = .agg #[.slice A1 p.1.length c1, .slice A2 p.2.1.length c2, .slice A3 p.2.2.length c3] ∧ rdFn.C σ.R w A1 p.1.length (p.1.map toFn) ∧ p.2.1.length ≤ 9223372036854775807 ∧ Rd.str.C σ.R w A3 p.2.2.length p.2.2 ∧ p.1.length ≤ 9223372036854775807 ∧ p.2.2.length ≤ 9223372036854775807 := by
 obtain ⟨cs, hx, hcs⟩ := h
 obtain ⟨v1, r1, e1, h1, q1⟩ := cons_one (c := .ro tFn p.1) (cs := [.ro tVal p.2.1, .ro .str p.2.2]) hcs
 obtain ⟨v2, r2, e2, h2, q2⟩ := cons_one q1
 obtain ⟨v3, r3, e3, h3, q3⟩ := cons_one q2
 obtain rfl := nil_one q3
 have h1' := fns_of (h1 : SlK tFn.rd σ.R w p.1 v1)
 obtain ⟨A1, c1, w1, a1, b1, d1, C1⟩ := h1'
 obtain ⟨A2, c2, w2, a2, b2, d2, C2⟩ := h2
 obtain ⟨A3, c3, w3, a3, b3, d3, C3⟩ := h3
 injection w1 with w1
 injection w2 with w2
 injection w3 with w3
 rw [List.length_map] at w1 C1
 refine ⟨A1, A2, A3, c1, c2, c3, ?_, C1, C2.2.1, C3, C1.2.1, C3.2.1⟩
 rw [hx]
 congr 1
 apply Array.toList_inj.1
 rw [e1, e2, e3, w1, w2, w3]
theorem large_fun (p : EProg) : AFun Tryz.prog 95 [.agg (tProg.enc p)] (.c (.bool (largeF (toProg p)))) := fun R w vs hR hG hv => by
 left
 refine ⟨enters_of Tryz.func95 (by decide) rfl _ _, ?_⟩
 obtain ⟨x, r, rfl, hx, hr⟩ := vals_one hv
 obtain rfl := vals_nil hr
 obtain ⟨A1, A2, A3, c1, c2, c3, rfl, C1, l2, C3, _⟩ := prog_vals hx
 have := large_any (toProg p) R w A1 A2 A3 c1 c2 c3 (by simpa [toProg] using C1) (by simpa [toProg] using l2) (by simpa [toProg] using C3)
 simp only [toProg, List.length_map] at this
 exact this.mono fun e w' ⟨he, hb⟩ => ⟨_, he, hb, rfl⟩
theorem form_fun (op : Int) : AFun Tryz.prog 195 [.c (.int .i64 op)] (.c (.str (formS op))) := fun R w vs hR hG hv => by
 left
 refine ⟨enters_of Tryz.func195 (by decide) rfl _ _, ?_⟩
 obtain ⟨x, r, rfl, ⟨hx, _⟩, hr⟩ := vals_one hv
 obtain rfl := vals_nil hr
 subst hx
 refine (form_any op w).mono fun e w' ⟨he, hb⟩ => ⟨_, he, hb, rfl, ?_⟩
 unfold formS
 cases formF op with
 | none => show (0 : Nat) ≤ _; omega
 | some t => obtain ⟨a, b, c⟩ := t; show (3 : Nat) ≤ _; omega
def triesT (f : EFn) : List (List EVal) := (triesF (toFn f).code).out.map (List.map fun t => (t.reg, t.at_))
theorem try_K {ok : Nat → Prop} {w : World} (x : Tr) (cs : List Value) (h : rdTry.K ok w x cs) : tVal.rd.K ok w (x.reg, x.at_) cs := by
 obtain ⟨rfl, h1, h2⟩ := h
 exact ⟨[.int .i64 x.reg], [.int .i64 x.at_], rfl, ⟨rfl, i64_iff.2 h1⟩, ⟨rfl, i64_iff.2 h2⟩⟩
theorem tries_fun (f : EFn) (hj : jumpsOk (toFn f).code) (hn : f.2.2.2.2.length ≤ 600) : AFun Tryz.prog 116 [.agg (tFn.enc f)] (.tup [.c (.ro (.slice tVal) (triesT f)), .c (.ro .bool (triesF (toFn f).code).seen), .c (.bool (!(triesF (toFn f).code).bad))]) := fun R w vs hR hG hv => by
 left
 refine ⟨enters_of Tryz.func116 (by decide) rfl _ _, ?_⟩
 obtain ⟨y, r, rfl, ⟨cs, hy, hcs⟩, hr⟩ := vals_one hv
 obtain rfl := vals_nil hr
 obtain ⟨v1, r1, e1, ⟨h1, i1⟩, q1⟩ := cons_one (c := .int .i64 f.1) (cs := [.int .i64 f.2.1, .bool f.2.2.1, .ro tI f.2.2.2.1, .ro tOrd f.2.2.2.2]) hcs
 obtain ⟨v2, r2, e2, ⟨h2, i2⟩, q2⟩ := cons_one q1
 obtain ⟨v3, r3, e3, h3, q3⟩ := cons_one q2
 obtain ⟨v4, r4, e4, h4, q4⟩ := cons_one q3
 obtain ⟨v5, r5, e5, h5, q5⟩ := cons_one q4
 obtain rfl := nil_one q5
 have h5' := sl_map toOrd rfl tOrd_K (h5 : SlK tOrd.rd R w f.2.2.2.2 v5)
 obtain ⟨A5, c5, w5, a5, b5, d5, C5⟩ := h5'
 injection w5 with w5
 rw [List.length_map] at w5 C5
 have hcs2 : cs = #[.int .i64 f.1, .int .i64 f.2.1, .bool f.2.2.1, v4, .slice A5 f.2.2.2.2.length c5] := by
  apply Array.toList_inj.1
  rw [e1, e2, e3, e4, e5, h1, h2, (h3 : v3 = _), w5]
 subst hcs2
 subst hy
 have := tries_any w R (toFn f) v4 A5 c5 (by simpa [toFn] using C5) hj (by simpa [toFn] using hn)
 simp only [toFn, List.length_map] at this
 refine this.mono fun e w' ⟨vo, vs, he, ⟨o1, o2⟩, hb⟩ => ⟨_, he, hb, _, rfl, .cons ?_ (.cons ?_ (.cons rfl .nil))⟩
 ·refine (Rd.slice (Ty.slice tVal).rd).mono (fun k hk => .inr hk) ((Rd.slice (Ty.slice tVal).rd).bound (sl_map (d := Rd.slice rdTry) (d' := (Ty.slice tVal).rd) (List.map fun t : Tr => ((t.reg, t.at_) : EVal)) rfl (fun x cs h => ?_) o1))
  have hl : cs.length = 1 := (Rd.slice rdTry).len h
  match cs, hl with
  | [v], _ => exact sl_map (d := rdTry) (d' := tVal.rd) (fun t : Tr => ((t.reg, t.at_) : EVal)) rfl try_K h
 ·exact (Rd.slice Rd.bool).mono (fun k hk => .inr hk) ((Rd.slice Rd.bool).bound o2)
end Go.Proofs.YtkonkblfckhcbaaGreatDoor
