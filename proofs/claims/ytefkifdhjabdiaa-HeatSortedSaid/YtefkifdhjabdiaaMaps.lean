/- A Go map said by a function of its key: 'MapIs'. Over any program and any key type that the kit's 'Keyed' serves. -/
import Derived.Maps.OwnSet
import Derived.WalkKit
namespace Go.Proofs.Ytefkifdhjabdiaa
set_option linter.unusedVariables false
set_option linter.unusedSimpArgs false
open Go.RowKit Go.Maps

/-- Any value of a map reads as itself. -/
def selfR (v : Value) : Option (DataW Value × List MemPlace) := some (.held v, [])

/-- Block b of w is a map of at most n entries; at each key it has what f says. -/
def MapIs (P : Program) (k : TypeId) (w : World) (b n : Nat) (f : Value → Option Value) : Prop :=
  ∃ D : DataW Value, w.ownsMap P k selfR b n D ∧ ∀ key kl, keyOf P k key = some kl → Maps.has D kl = (f key).isSome ∧ ∀ z, D.atKey kl (.held z) = .held ((f key).getD z)

/-- f, but v at a key. -/
noncomputable def updF (f : Value → Option Value) (key v : Value) : Value → Option Value := fun x => by classical exact if x = key then some v else f x
theorem updF_same (f : Value → Option Value) (key v : Value) : updF f key v key = some v := by simp [updF]
theorem updF_other (f : Value → Option Value) {key x : Value} (v : Value) (h : x ≠ key) : updF f key v x = f x := by simp [updF, h]

section
variable {P : Program} {k : TypeId} {w w1 : World} {b n : Nat} {f : Value → Option Value}

theorem MapIs.made (P : Program) (k : TypeId) (w : World) : MapIs P k (w.alloc (.map #[] 0)) w.heap.size 0 (fun _ => none) :=
  ⟨.map [], World.ownsMap_made _ _ _ _, fun key kl _ => ⟨rfl, fun z => rfl⟩⟩
theorem MapIs.lt (h : MapIs P k w b n f) : b < w.heap.size := by obtain ⟨D, ho, _⟩ := h; exact ho.lt
theorem MapIs.kept (h : MapIs P k w b n f) {row : Option Nat} (hg : w.grownBy w1 row) (hne : some b ≠ row) : MapIs P k w1 b n f := by
  obtain ⟨D, ho, hf⟩ := h
  exact ⟨D, ho.kept hg hne, hf⟩
theorem MapIs.below (h : MapIs P k w b n f) {B : Nat} (hb : Below B w w1) (hB : b < B) : MapIs P k w1 b n f := by
  obtain ⟨D, ⟨es, clock, h1, h2⟩, hf⟩ := h
  exact ⟨D, ⟨es, clock, by rw [hb.block b hB]; exact h1, h2⟩, hf⟩
theorem MapIs.block (h : MapIs P k w b n f) (hb : w1.heap[b]? = w.heap[b]?) : MapIs P k w1 b n f := by
  obtain ⟨D, ⟨es, clock, h1, h2⟩, hf⟩ := h
  exact ⟨D, ⟨es, clock, by rw [hb]; exact h1, h2⟩, hf⟩
theorem MapIs.drew (h : MapIs P k w b n f) : MapIs P k w.drew b n f := h.block rfl
theorem MapIs.alloc (h : MapIs P k w b n f) (o : Obj) : MapIs P k (w.alloc o) b n f := h.kept (World.grownBy_alloc w o none) (by simp)
theorem MapIs.setCell (h : MapIs P k w b n f) {a : Addr} (ha : b ≠ a.block) (u : Value) : MapIs P k (w.setCell a u) b n f := by
  obtain ⟨D, ho, hf⟩ := h
  exact ⟨D, ho.setCell ha u, hf⟩
theorem MapIs.mono (h : MapIs P k w b n f) {n' : Nat} (hn : n ≤ n') : MapIs P k w b n' f := by
  obtain ⟨D, ho, hf⟩ := h
  exact ⟨D, ho.mono hn, hf⟩

/-- 'v, ok := m[key]'. -/
theorem MapIs.look_ok (h : MapIs P k w b n f) {t e : TypeId} (K : Keyed P k) (ht : P.underlying t = some (.map k e)) {z : Value} (hz : (zeroValue e).run P w = .ok z w) {key : Value} {kl : Lit} (hkey : keyOf P k key = some kl) :
    (Instr.lookup t (.map (some b)) key true).run P w = .ok (.tuple #[(f key).getD z, .bool (f key).isSome]) w := by
  obtain ⟨D, ho, hf⟩ := h
  obtain ⟨v, ps, hr, hv⟩ := ho.look_ok K ht hz (zd := .held z) (zp := []) rfl hkey
  obtain ⟨h1, h2⟩ := hf key kl hkey
  rw [h2 z, selfR] at hv
  injection hv with hv
  injection hv with hv _
  injection hv with hv
  rw [hr, hv, h1]
/-- 'm[key]'. -/
theorem MapIs.look (h : MapIs P k w b n f) {t e : TypeId} (K : Keyed P k) (ht : P.underlying t = some (.map k e)) {z : Value} (hz : (zeroValue e).run P w = .ok z w) {key : Value} {kl : Lit} (hkey : keyOf P k key = some kl) :
    (Instr.lookup t (.map (some b)) key false).run P w = .ok ((f key).getD z) w := by
  obtain ⟨D, ho, hf⟩ := h
  obtain ⟨v, ps, hr, hv⟩ := ho.lookup K ht hz (zd := .held z) (zp := []) rfl hkey
  obtain ⟨h1, h2⟩ := hf key kl hkey
  rw [h2 z, selfR] at hv
  injection hv with hv
  injection hv with hv _
  injection hv with hv
  rw [hr, hv]
theorem MapIs.len (h : MapIs P k w b n f) {t e : TypeId} (ht : P.underlying t = some (.map k e)) : ∃ s : Nat, s ≤ n ∧ ∀ w1 : World, w1.heap[b]? = w.heap[b]? → ∀ ty, (Builtin.len_ #[t] ty #[.map (some b)]).run P w1 = .ok (.int .i64 (s : Int)) w1 := by
  obtain ⟨D, ho, hf⟩ := h
  refine ⟨Maps.size D, ho.size_le, fun w1 hb ty => ?_⟩
  obtain ⟨es, clock, h1, h2⟩ := ho
  exact World.ownsMap.len (⟨es, clock, hb.trans h1, h2⟩ : w1.ownsMap P k selfR b n D) ht ty
/-- 'm[key] = v'. -/
theorem MapIs.store (h : MapIs P k w b n f) {t e : TypeId} (K : Keyed P k) (ht : P.underlying t = some (.map k e)) (hn : n < maxLen) {key : Value} {kl : Lit} (hkey : keyOf P k key = some kl) (v : Value) :
    ∃ w', (Instr.mapUpdate t (.map (some b)) key v).run P w = .ok () w' ∧ MapIs P k w' b (n + 1) (updF f key v) ∧ w.mapTurned w' b := by
  obtain ⟨D, ho, hf⟩ := h
  obtain ⟨w', hr, ho', ht'⟩ := ho.store K ht hn hkey (val := v) (d := .held v) (ps := []) rfl
  refine ⟨w', hr, ⟨_, ho', fun key' kl' hk' => ?_⟩, ht'⟩
  by_cases he : key' = key
  · subst he
    obtain rfl : kl' = kl := by rw [hkey] at hk'; injection hk' with hk'; exact hk'.symm
    rw [updF_same]
    exact ⟨Maps.has_put_same ho.isMap (K.key hkey) _, fun z => Maps.atKey_put_same ho.isMap (K.key hkey) _ _⟩
  · have hne : kl' ≠ kl := fun e => he (K.inj (e ▸ hk') hkey)
    rw [updF_other _ _ he]
    obtain ⟨h1, h2⟩ := hf key' kl' hk'
    exact ⟨by rw [Maps.has_put_other hne, h1], fun z => by rw [Maps.atKey_put_other hne, h2]⟩
end
end Go.Proofs.Ytefkifdhjabdiaa
