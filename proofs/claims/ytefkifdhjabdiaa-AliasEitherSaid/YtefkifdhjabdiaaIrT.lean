/- Traces as plain data, and how they lie in memory. -/
import Derived.Test.YtefkifdhjabdiaaIr1
namespace Go.Proofs.Ytefkifdhjabdiaa
set_option linter.unusedVariables false
set_option linter.unusedSimpArgs false
open Go.RowKit

structure TSet where
  reg : Int
  val : Int
deriving DecidableEq
structure TMake where
  cell : Int
  kind : Int
  num : Int
  vals : List Int
deriving DecidableEq
structure TExit where
  at_ : Int
  steps : Int
  sets : List TSet
  makes : List TMake
deriving DecidableEq
structure TTrace where
  fn : Int
  at_ : Int
  loop : Int
  ins : List Ins
  exits : List TExit
  turn : TExit
  back : TExit
deriving DecidableEq

def Ins.Ok (i : Ins) : Prop := Rd.IsInt i.op ∧ Rd.IsInt i.a ∧ Rd.IsInt i.b ∧ Rd.IsInt i.c ∧ Rd.IsInt i.n ∧ Rd.IsInt i.x ∧ Rd.IsInt i.kk ∧ Rd.IsInt i.kn
def rdIns : Rd Ins where
  sz := 8
  K := fun _ _ x cs => cs = x.cells.toList ∧ x.Ok
  len := fun h' => by rw [h'.1]; rfl
  one := fun h' u hu => by
    rw [h'.1] at hu
    simp [Ins.cells] at hu
    rcases hu with h | h | h | h | h | h | h | h <;> rw [h] <;> rfl
  move := fun _ h => h
  mono := fun _ h => h
  bound := fun h => h
def TSet.cells (s : TSet) : Array Value := #[.int .i64 s.reg, .int .i64 s.val]
def rdSet : Rd TSet where
  sz := 2
  K := fun _ _ x cs => cs = x.cells.toList ∧ Rd.IsInt x.reg ∧ Rd.IsInt x.val
  len := fun h' => by rw [h'.1]; rfl
  one := fun h' u hu => by
    rw [h'.1] at hu
    simp [TSet.cells] at hu
    rcases hu with h | h <;> rw [h] <;> rfl
  move := fun _ h => h
  mono := fun _ h => h
  bound := fun h => h
/-- Whether a value is a slice that reads as xs. -/
abbrev SlK {α : Type} (d : Rd α) (ok : Nat → Prop) (w : World) (xs : List α) (v : Value) : Prop := (Rd.slice d).K ok w xs [v]
theorem SlK.one {α : Type} {d : Rd α} {ok : Nat → Prop} {w : World} {xs : List α} {v : Value} (h : SlK d ok w xs v) : v.oneCell' = true := (Rd.slice d).one h v (by simp)
def rdMake : Rd TMake where
  sz := 4
  K := fun ok w x cs => ∃ v, cs = [.int .i64 x.cell, .int .i64 x.kind, .int .i64 x.num, v] ∧ (Rd.IsInt x.cell ∧ Rd.IsInt x.kind ∧ Rd.IsInt x.num) ∧ SlK Rd.int ok w x.vals v
  len := fun ⟨v, h, _⟩ => by rw [h]; rfl
  one := fun ⟨v, h, _, hv⟩ u hu => by
    rw [h] at hu
    simp at hu
    rcases hu with h | h | h | h
    · rw [h]; rfl
    · rw [h]; rfl
    · rw [h]; rfl
    · rw [h]; exact hv.one
  move := fun hm ⟨v, h, hi, hv⟩ => ⟨v, h, hi, (Rd.slice Rd.int).move hm hv⟩
  mono := fun hm ⟨v, h, hi, hv⟩ => ⟨v, h, hi, (Rd.slice Rd.int).mono hm hv⟩
  bound := fun ⟨v, h, hi, hv⟩ => ⟨v, h, hi, (Rd.slice Rd.int).bound hv⟩
def rdExit : Rd TExit where
  sz := 4
  K := fun ok w x cs => ∃ v1 v2, cs = [.int .i64 x.at_, .int .i64 x.steps, v1, v2] ∧ (Rd.IsInt x.at_ ∧ Rd.IsInt x.steps) ∧ SlK rdSet ok w x.sets v1 ∧ SlK rdMake ok w x.makes v2
  len := fun ⟨v1, v2, h, _⟩ => by rw [h]; rfl
  one := fun ⟨v1, v2, h, _, h1, h2⟩ u hu => by
    rw [h] at hu
    simp at hu
    rcases hu with h | h | h | h
    · rw [h]; rfl
    · rw [h]; rfl
    · rw [h]; exact h1.one
    · rw [h]; exact h2.one
  move := fun hm ⟨v1, v2, h, hi, h1, h2⟩ => ⟨v1, v2, h, hi, (Rd.slice rdSet).move hm h1, (Rd.slice rdMake).move hm h2⟩
  mono := fun hm ⟨v1, v2, h, hi, h1, h2⟩ => ⟨v1, v2, h, hi, (Rd.slice rdSet).mono hm h1, (Rd.slice rdMake).mono hm h2⟩
  bound := fun ⟨v1, v2, h, hi, h1, h2⟩ => ⟨v1, v2, h, hi, (Rd.slice rdSet).bound h1, (Rd.slice rdMake).bound h2⟩
def rdTrace : Rd TTrace where
  sz := 13
  K := fun ok w x cs => ∃ vi ve ct cb, cs = [.int .i64 x.fn, .int .i64 x.at_, .int .i64 x.loop, vi, ve] ++ ct ++ cb ∧ (Rd.IsInt x.fn ∧ Rd.IsInt x.at_ ∧ Rd.IsInt x.loop) ∧ SlK rdIns ok w x.ins vi ∧ SlK rdExit ok w x.exits ve ∧ rdExit.K ok w x.turn ct ∧ rdExit.K ok w x.back cb
  len := fun ⟨vi, ve, ct, cb, h, _, _, _, h3, h4⟩ => by
    have e1 := rdExit.len h3
    have e2 := rdExit.len h4
    rw [h]
    simp [e1, e2, rdExit]
  one := fun ⟨vi, ve, ct, cb, h, _, h1, h2, h3, h4⟩ u hu => by
    rw [h, List.mem_append, List.mem_append] at hu
    rcases hu with (hu | hu) | hu
    · simp at hu
      rcases hu with h | h | h | h | h
      · rw [h]; rfl
      · rw [h]; rfl
      · rw [h]; rfl
      · rw [h]; exact h1.one
      · rw [h]; exact h2.one
    · exact rdExit.one h3 u hu
    · exact rdExit.one h4 u hu
  move := fun hm ⟨vi, ve, ct, cb, h, hi, h1, h2, h3, h4⟩ => ⟨vi, ve, ct, cb, h, hi, (Rd.slice rdIns).move hm h1, (Rd.slice rdExit).move hm h2, rdExit.move hm h3, rdExit.move hm h4⟩
  mono := fun hm ⟨vi, ve, ct, cb, h, hi, h1, h2, h3, h4⟩ => ⟨vi, ve, ct, cb, h, hi, (Rd.slice rdIns).mono hm h1, (Rd.slice rdExit).mono hm h2, rdExit.mono hm h3, rdExit.mono hm h4⟩
  bound := fun ⟨vi, ve, ct, cb, h, hi, h1, h2, h3, h4⟩ => ⟨vi, ve, ct, cb, h, hi, (Rd.slice rdIns).bound h1, (Rd.slice rdExit).bound h2, rdExit.bound h3, rdExit.bound h4⟩

/-! ### opened from a row's reading -/
theorem opens_conv {α β : Type} {P : Program} {t : TypeId} {d : Rd α} {d' : Rd β} (h : Opens P t d) (hs : d.sz = d'.sz) (hc : ∀ ok w a cs, d.K ok w a cs → ∃ b, d'.K ok w b cs) : Opens P t d' :=
  ⟨h.1.trans hs, fun enc w fuel cs x hx => by
    obtain ⟨a, ha⟩ := h.2 enc w fuel cs x hx
    exact hc _ _ _ _ ha⟩
theorem opInt : Opens Try.prog 3 Rd.int := opens_int Try.underlying3 (by kernel_rfl)
theorem opIntS : Opens Try.prog 55 (Rd.slice Rd.int) := opens_slice Try.underlying55 (by kernel_rfl) opInt (by decide)
theorem opVal : Opens Try.prog 58 (Rd.pair Rd.int Rd.int) := opens_struct Try.underlying58 (by kernel_rfl) (opensFs_cons rfl opInt (opensFs_one rfl opInt))
theorem opIns : Opens Try.prog 60 rdIns :=
  opens_conv (opens_struct (d := Rd.pair Rd.int (Rd.pair Rd.int (Rd.pair Rd.int (Rd.pair Rd.int (Rd.pair Rd.int (Rd.pair Rd.int (Rd.pair Rd.int Rd.int))))))) Try.underlying60 (by kernel_rfl)
    (opensFs_cons rfl opInt (opensFs_cons rfl opInt (opensFs_cons rfl opInt (opensFs_cons rfl opInt (opensFs_cons rfl opInt (opensFs_cons rfl opInt (opensFs_one rfl opVal)))))))) rfl
    (fun ok w a cs h => by
      obtain ⟨_, _, rfl, ⟨rfl, i0⟩, _, _, rfl, ⟨rfl, i1⟩, _, _, rfl, ⟨rfl, i2⟩, _, _, rfl, ⟨rfl, i3⟩, _, _, rfl, ⟨rfl, i4⟩, _, _, rfl, ⟨rfl, i5⟩, _, _, rfl, ⟨rfl, i6⟩, ⟨rfl, i7⟩⟩ := h
      exact ⟨⟨_, _, _, _, _, _, _, _⟩, rfl, i0, i1, i2, i3, i4, i5, i6, i7⟩)
theorem opSet : Opens Try.prog 109 rdSet :=
  opens_conv (opens_struct (d := Rd.pair Rd.int Rd.int) Try.underlying109 (by kernel_rfl) (opensFs_cons rfl opInt (opensFs_one rfl opInt))) rfl
    (fun ok w a cs h => by
      obtain ⟨_, _, rfl, ⟨rfl, i0⟩, ⟨rfl, i1⟩⟩ := h
      exact ⟨⟨_, _⟩, rfl, i0, i1⟩)
theorem SlK_of {α : Type} {d : Rd α} {ok : Nat → Prop} {w : World} {xs : List α} {cs : List Value} (h : (Rd.slice d).K ok w xs cs) : ∃ v, cs = [v] ∧ SlK d ok w xs v := by
  obtain ⟨A, c, rfl, r⟩ := h
  exact ⟨_, rfl, A, c, rfl, r⟩
theorem opMake : Opens Try.prog 111 rdMake :=
  opens_conv (opens_struct (d := Rd.pair Rd.int (Rd.pair Rd.int (Rd.pair Rd.int (Rd.slice Rd.int)))) Try.underlying111 (by kernel_rfl) (opensFs_cons rfl opInt (opensFs_cons rfl opInt (opensFs_cons rfl opInt (opensFs_one rfl opIntS))))) rfl
    (fun ok w a cs h => by
      obtain ⟨_, _, rfl, ⟨rfl, i0⟩, _, _, rfl, ⟨rfl, i1⟩, _, _, rfl, ⟨rfl, i2⟩, h3⟩ := h
      obtain ⟨v, rfl, hv⟩ := SlK_of h3
      exact ⟨⟨_, _, _, _⟩, v, rfl, ⟨i0, i1, i2⟩, hv⟩)
theorem opExit : Opens Try.prog 40 rdExit :=
  opens_conv (opens_struct (d := Rd.pair Rd.int (Rd.pair Rd.int (Rd.pair (Rd.slice rdSet) (Rd.slice rdMake)))) Try.underlying40 (by kernel_rfl)
    (opensFs_cons rfl opInt (opensFs_cons rfl opInt (opensFs_cons rfl (opens_slice Try.underlying37 (by kernel_rfl) opSet (by decide)) (opensFs_one rfl (opens_slice Try.underlying38 (by kernel_rfl) opMake (by decide))))))) rfl
    (fun ok w a cs h => by
      obtain ⟨_, _, rfl, ⟨rfl, i0⟩, _, _, rfl, ⟨rfl, i1⟩, _, _, rfl, h2, h3⟩ := h
      obtain ⟨v2, rfl, hv2⟩ := SlK_of h2
      obtain ⟨v3, rfl, hv3⟩ := SlK_of h3
      exact ⟨⟨_, _, _, _⟩, v2, v3, rfl, ⟨i0, i1⟩, hv2, hv3⟩)
theorem opTrace : Opens Try.prog 42 rdTrace :=
  opens_conv (opens_struct (d := Rd.pair Rd.int (Rd.pair Rd.int (Rd.pair Rd.int (Rd.pair (Rd.slice rdIns) (Rd.pair (Rd.slice rdExit) (Rd.pair rdExit rdExit)))))) Try.underlying42 (by kernel_rfl)
    (opensFs_cons rfl opInt (opensFs_cons rfl opInt (opensFs_cons rfl opInt (opensFs_cons rfl (opens_slice Try.underlying35 (by kernel_rfl) opIns (by decide)) (opensFs_cons rfl (opens_slice Try.underlying36 (by kernel_rfl) opExit (by decide)) (opensFs_cons rfl opExit (opensFs_one rfl opExit)))))))) rfl
    (fun ok w a cs h => by
      obtain ⟨_, _, rfl, ⟨rfl, i0⟩, _, _, rfl, ⟨rfl, i1⟩, _, _, rfl, ⟨rfl, i2⟩, _, _, rfl, h3, _, _, rfl, h4, _, _, rfl, h5, h6⟩ := h
      obtain ⟨v3, rfl, hv3⟩ := SlK_of h3
      obtain ⟨v4, rfl, hv4⟩ := SlK_of h4
      exact ⟨⟨_, _, _, _, _, _, _⟩, v3, v4, _, _, by simp, ⟨i0, i1, i2⟩, hv3, hv4, h5, h6⟩)
end Go.Proofs.Ytefkifdhjabdiaa
