/- What the laws' texts lean on, part 3: lemmas and the contracts of functions. No condition. -/
import Derived.Test.YtefkifdhjabdiaaDoorF1
namespace Go.Proofs.YtefkifdhjabdiaaDoor
set_option linter.unusedVariables false
set_option linter.unusedSimpArgs false
open Go.RowKit

structure TSet where
  reg : Int
  val : Int
deriving DecidableEq
structure TMake where
  cell : Int
  kind : Int
  num : Int
  vals : List Int
deriving DecidableEq
structure TExit where
  at_ : Int
  steps : Int
  sets : List TSet
  makes : List TMake
deriving DecidableEq
structure TTrace where
  fn : Int
  at_ : Int
  loop : Int
  ins : List Ins
  exits : List TExit
  turn : TExit
  back : TExit
deriving DecidableEq

def Ins.Ok (i : Ins) : Prop := Rd.IsInt i.op ∧ Rd.IsInt i.a ∧ Rd.IsInt i.b ∧ Rd.IsInt i.c ∧ Rd.IsInt i.n ∧ Rd.IsInt i.x ∧ Rd.IsInt i.kk ∧ Rd.IsInt i.kn
def rdIns : Rd Ins where
  sz := 8
  K := fun _ _ x cs => cs = x.cells.toList ∧ x.Ok
  len := fun h' => by rw [h'.1]; rfl
  one := fun h' u hu => by
    rw [h'.1] at hu
    simp [Ins.cells] at hu
    rcases hu with h | h | h | h | h | h | h | h <;> rw [h] <;> rfl
  move := fun _ h => h
  mono := fun _ h => h
  bound := fun h => h
def TSet.cells (s : TSet) : Array Value := #[.int .i64 s.reg, .int .i64 s.val]
def rdSet : Rd TSet where
  sz := 2
  K := fun _ _ x cs => cs = x.cells.toList ∧ Rd.IsInt x.reg ∧ Rd.IsInt x.val
  len := fun h' => by rw [h'.1]; rfl
  one := fun h' u hu => by
    rw [h'.1] at hu
    simp [TSet.cells] at hu
    rcases hu with h | h <;> rw [h] <;> rfl
  move := fun _ h => h
  mono := fun _ h => h
  bound := fun h => h
/-- Whether a value is a slice that reads as xs. -/
abbrev SlK {α : Type} (d : Rd α) (ok : Nat → Prop) (w : World) (xs : List α) (v : Value) : Prop := (Rd.slice d).K ok w xs [v]
theorem SlK.one {α : Type} {d : Rd α} {ok : Nat → Prop} {w : World} {xs : List α} {v : Value} (h : SlK d ok w xs v) : v.oneCell' = true := (Rd.slice d).one h v (by simp)
def rdMake : Rd TMake where
  sz := 4
  K := fun ok w x cs => ∃ v, cs = [.int .i64 x.cell, .int .i64 x.kind, .int .i64 x.num, v] ∧ (Rd.IsInt x.cell ∧ Rd.IsInt x.kind ∧ Rd.IsInt x.num) ∧ SlK Rd.int ok w x.vals v
  len := fun ⟨v, h, _⟩ => by rw [h]; rfl
  one := fun ⟨v, h, _, hv⟩ u hu => by
    rw [h] at hu
    simp at hu
    rcases hu with h | h | h | h
    · rw [h]; rfl
    · rw [h]; rfl
    · rw [h]; rfl
    · rw [h]; exact hv.one
  move := fun hm ⟨v, h, hi, hv⟩ => ⟨v, h, hi, (Rd.slice Rd.int).move hm hv⟩
  mono := fun hm ⟨v, h, hi, hv⟩ => ⟨v, h, hi, (Rd.slice Rd.int).mono hm hv⟩
  bound := fun ⟨v, h, hi, hv⟩ => ⟨v, h, hi, (Rd.slice Rd.int).bound hv⟩
def rdExit : Rd TExit where
  sz := 4
  K := fun ok w x cs => ∃ v1 v2, cs = [.int .i64 x.at_, .int .i64 x.steps, v1, v2] ∧ (Rd.IsInt x.at_ ∧ Rd.IsInt x.steps) ∧ SlK rdSet ok w x.sets v1 ∧ SlK rdMake ok w x.makes v2
  len := fun ⟨v1, v2, h, _⟩ => by rw [h]; rfl
  one := fun ⟨v1, v2, h, _, h1, h2⟩ u hu => by
    rw [h] at hu
    simp at hu
    rcases hu with h | h | h | h
    · rw [h]; rfl
    · rw [h]; rfl
    · rw [h]; exact h1.one
    · rw [h]; exact h2.one
  move := fun hm ⟨v1, v2, h, hi, h1, h2⟩ => ⟨v1, v2, h, hi, (Rd.slice rdSet).move hm h1, (Rd.slice rdMake).move hm h2⟩
  mono := fun hm ⟨v1, v2, h, hi, h1, h2⟩ => ⟨v1, v2, h, hi, (Rd.slice rdSet).mono hm h1, (Rd.slice rdMake).mono hm h2⟩
  bound := fun ⟨v1, v2, h, hi, h1, h2⟩ => ⟨v1, v2, h, hi, (Rd.slice rdSet).bound h1, (Rd.slice rdMake).bound h2⟩
def rdTrace : Rd TTrace where
  sz := 13
  K := fun ok w x cs => ∃ vi ve ct cb, cs = [.int .i64 x.fn, .int .i64 x.at_, .int .i64 x.loop, vi, ve] ++ ct ++ cb ∧ (Rd.IsInt x.fn ∧ Rd.IsInt x.at_ ∧ Rd.IsInt x.loop) ∧ SlK rdIns ok w x.ins vi ∧ SlK rdExit ok w x.exits ve ∧ rdExit.K ok w x.turn ct ∧ rdExit.K ok w x.back cb
  len := fun ⟨vi, ve, ct, cb, h, _, _, _, h3, h4⟩ => by
    have e1 := rdExit.len h3
    have e2 := rdExit.len h4
    rw [h]
    simp [e1, e2, rdExit]
  one := fun ⟨vi, ve, ct, cb, h, _, h1, h2, h3, h4⟩ u hu => by
    rw [h, List.mem_append, List.mem_append] at hu
    rcases hu with (hu | hu) | hu
    · simp at hu
      rcases hu with h | h | h | h | h
      · rw [h]; rfl
      · rw [h]; rfl
      · rw [h]; rfl
      · rw [h]; exact h1.one
      · rw [h]; exact h2.one
    · exact rdExit.one h3 u hu
    · exact rdExit.one h4 u hu
  move := fun hm ⟨vi, ve, ct, cb, h, hi, h1, h2, h3, h4⟩ => ⟨vi, ve, ct, cb, h, hi, (Rd.slice rdIns).move hm h1, (Rd.slice rdExit).move hm h2, rdExit.move hm h3, rdExit.move hm h4⟩
  mono := fun hm ⟨vi, ve, ct, cb, h, hi, h1, h2, h3, h4⟩ => ⟨vi, ve, ct, cb, h, hi, (Rd.slice rdIns).mono hm h1, (Rd.slice rdExit).mono hm h2, rdExit.mono hm h3, rdExit.mono hm h4⟩
  bound := fun ⟨vi, ve, ct, cb, h, hi, h1, h2, h3, h4⟩ => ⟨vi, ve, ct, cb, h, hi, (Rd.slice rdIns).bound h1, (Rd.slice rdExit).bound h2, rdExit.bound h3, rdExit.bound h4⟩

/-! ### opened from a row's reading -/
theorem opens_conv {α β : Type} {P : Program} {t : TypeId} {d : Rd α} {d' : Rd β} (h : Opens P t d) (hs : d.sz = d'.sz) (hc : ∀ ok w a cs, d.K ok w a cs → ∃ b, d'.K ok w b cs) : Opens P t d' :=
  ⟨h.1.trans hs, fun enc w fuel cs x hx => by
    obtain ⟨a, ha⟩ := h.2 enc w fuel cs x hx
    exact hc _ _ _ _ ha⟩
theorem opInt : Opens Tryd.prog 3 Rd.int := opens_int Tryd.underlying3 (by kernel_rfl)
theorem opIntS : Opens Tryd.prog 41 (Rd.slice Rd.int) := opens_slice Tryd.underlying41 (by kernel_rfl) opInt (by decide)
theorem opVal : Opens Tryd.prog 44 (Rd.pair Rd.int Rd.int) := opens_struct Tryd.underlying44 (by kernel_rfl) (opensFs_cons rfl opInt (opensFs_one rfl opInt))
theorem opIns : Opens Tryd.prog 46 rdIns :=
  opens_conv (opens_struct (d := Rd.pair Rd.int (Rd.pair Rd.int (Rd.pair Rd.int (Rd.pair Rd.int (Rd.pair Rd.int (Rd.pair Rd.int (Rd.pair Rd.int Rd.int))))))) Tryd.underlying46 (by kernel_rfl)
    (opensFs_cons rfl opInt (opensFs_cons rfl opInt (opensFs_cons rfl opInt (opensFs_cons rfl opInt (opensFs_cons rfl opInt (opensFs_cons rfl opInt (opensFs_one rfl opVal)))))))) rfl
    (fun ok w a cs h => by
      obtain ⟨_, _, rfl, ⟨rfl, i0⟩, _, _, rfl, ⟨rfl, i1⟩, _, _, rfl, ⟨rfl, i2⟩, _, _, rfl, ⟨rfl, i3⟩, _, _, rfl, ⟨rfl, i4⟩, _, _, rfl, ⟨rfl, i5⟩, _, _, rfl, ⟨rfl, i6⟩, ⟨rfl, i7⟩⟩ := h
      exact ⟨⟨_, _, _, _, _, _, _, _⟩, rfl, i0, i1, i2, i3, i4, i5, i6, i7⟩)
theorem opSet : Opens Tryd.prog 116 rdSet :=
  opens_conv (opens_struct (d := Rd.pair Rd.int Rd.int) Tryd.underlying116 (by kernel_rfl) (opensFs_cons rfl opInt (opensFs_one rfl opInt))) rfl
    (fun ok w a cs h => by
      obtain ⟨_, _, rfl, ⟨rfl, i0⟩, ⟨rfl, i1⟩⟩ := h
      exact ⟨⟨_, _⟩, rfl, i0, i1⟩)
theorem SlK_of {α : Type} {d : Rd α} {ok : Nat → Prop} {w : World} {xs : List α} {cs : List Value} (h : (Rd.slice d).K ok w xs cs) : ∃ v, cs = [v] ∧ SlK d ok w xs v := by
  obtain ⟨A, c, rfl, r⟩ := h
  exact ⟨_, rfl, A, c, rfl, r⟩
theorem opMake : Opens Tryd.prog 118 rdMake :=
  opens_conv (opens_struct (d := Rd.pair Rd.int (Rd.pair Rd.int (Rd.pair Rd.int (Rd.slice Rd.int)))) Tryd.underlying118 (by kernel_rfl) (opensFs_cons rfl opInt (opensFs_cons rfl opInt (opensFs_cons rfl opInt (opensFs_one rfl opIntS))))) rfl
    (fun ok w a cs h => by
      obtain ⟨_, _, rfl, ⟨rfl, i0⟩, _, _, rfl, ⟨rfl, i1⟩, _, _, rfl, ⟨rfl, i2⟩, h3⟩ := h
      obtain ⟨v, rfl, hv⟩ := SlK_of h3
      exact ⟨⟨_, _, _, _⟩, v, rfl, ⟨i0, i1, i2⟩, hv⟩)
theorem opExit : Opens Tryd.prog 27 rdExit :=
  opens_conv (opens_struct (d := Rd.pair Rd.int (Rd.pair Rd.int (Rd.pair (Rd.slice rdSet) (Rd.slice rdMake)))) Tryd.underlying27 (by kernel_rfl)
    (opensFs_cons rfl opInt (opensFs_cons rfl opInt (opensFs_cons rfl (opens_slice Tryd.underlying24 (by kernel_rfl) opSet (by decide)) (opensFs_one rfl (opens_slice Tryd.underlying25 (by kernel_rfl) opMake (by decide))))))) rfl
    (fun ok w a cs h => by
      obtain ⟨_, _, rfl, ⟨rfl, i0⟩, _, _, rfl, ⟨rfl, i1⟩, _, _, rfl, h2, h3⟩ := h
      obtain ⟨v2, rfl, hv2⟩ := SlK_of h2
      obtain ⟨v3, rfl, hv3⟩ := SlK_of h3
      exact ⟨⟨_, _, _, _⟩, v2, v3, rfl, ⟨i0, i1⟩, hv2, hv3⟩)
theorem opTrace : Opens Tryd.prog 29 rdTrace :=
  opens_conv (opens_struct (d := Rd.pair Rd.int (Rd.pair Rd.int (Rd.pair Rd.int (Rd.pair (Rd.slice rdIns) (Rd.pair (Rd.slice rdExit) (Rd.pair rdExit rdExit)))))) Tryd.underlying29 (by kernel_rfl)
    (opensFs_cons rfl opInt (opensFs_cons rfl opInt (opensFs_cons rfl opInt (opensFs_cons rfl (opens_slice Tryd.underlying22 (by kernel_rfl) opIns (by decide)) (opensFs_cons rfl (opens_slice Tryd.underlying23 (by kernel_rfl) opExit (by decide)) (opensFs_cons rfl opExit (opensFs_one rfl opExit)))))))) rfl
    (fun ok w a cs h => by
      obtain ⟨_, _, rfl, ⟨rfl, i0⟩, _, _, rfl, ⟨rfl, i1⟩, _, _, rfl, ⟨rfl, i2⟩, _, _, rfl, h3, _, _, rfl, h4, _, _, rfl, h5, h6⟩ := h
      obtain ⟨v3, rfl, hv3⟩ := SlK_of h3
      obtain ⟨v4, rfl, hv4⟩ := SlK_of h4
      exact ⟨⟨_, _, _, _, _, _, _⟩, v3, v4, _, _, by simp, ⟨i0, i1, i2⟩, hv3, hv4, h5, h6⟩)
end Go.Proofs.YtefkifdhjabdiaaDoor
namespace Go.Proofs.YtefkifdhjabdiaaDoor
set_option linter.unusedVariables false
set_option linter.unusedSimpArgs false
open Go.RowKit
theorem cI : Opens Tryd.prog 3 tI.rd := opens_conv (opens_int Tryd.underlying3 (by kernel_rfl)) rfl (fun ok w a cs h => ⟨a, h.1, i64_iff.2 h.2⟩)
theorem cB : Opens Tryd.prog 4 (Ty.rd .bool) := opens_bool Tryd.underlying4 (by kernel_rfl)
theorem cS : Opens Tryd.prog 9 (Ty.rd .str) := opens_str Tryd.underlying9 (by kernel_rfl)
theorem szp (t : Ty) : 0 < t.rd.sz := by rw [t.rd_sz]; exact t.sz_pos
theorem cIs : Opens Tryd.prog 41 (Ty.rd (.slice tI)) := opens_slice Tryd.underlying41 (by kernel_rfl) cI (szp _)
theorem cSs : Opens Tryd.prog 37 (Ty.rd (.slice .str)) := opens_slice Tryd.underlying37 (by kernel_rfl) cS (szp _)
theorem cVal : Opens Tryd.prog 44 tVal.rd := opens_struct (d := tVal.rd) Tryd.underlying44 (by kernel_rfl) (opensFs_cons rfl cI (opensFs_one rfl cI))
theorem cVals : Opens Tryd.prog 36 (Ty.rd (.slice tVal)) := opens_slice Tryd.underlying36 (by kernel_rfl) cVal (szp _)
theorem cIns : Opens Tryd.prog 46 tIns.rd := opens_struct (d := tIns.rd) Tryd.underlying46 (by kernel_rfl) (opensFs_cons rfl cI (opensFs_cons rfl cI (opensFs_cons rfl cI (opensFs_cons rfl cI (opensFs_cons rfl cI (opensFs_cons rfl cI (opensFs_one rfl cVal)))))))
theorem cSet : Opens Tryd.prog 116 tSet.rd := opens_struct (d := tSet.rd) Tryd.underlying116 (by kernel_rfl) (opensFs_cons rfl cI (opensFs_one rfl cI))
theorem cMake : Opens Tryd.prog 118 tMake.rd := opens_struct (d := tMake.rd) Tryd.underlying118 (by kernel_rfl) (opensFs_cons rfl cI (opensFs_cons rfl cI (opensFs_cons rfl cI (opensFs_one rfl cIs))))
theorem cExit : Opens Tryd.prog 27 tExit.rd := opens_struct (d := tExit.rd) Tryd.underlying27 (by kernel_rfl) (opensFs_cons rfl cI (opensFs_cons rfl cI (opensFs_cons rfl (opens_slice Tryd.underlying24 (by kernel_rfl) cSet (szp _)) (opensFs_one rfl (opens_slice Tryd.underlying25 (by kernel_rfl) cMake (szp _))))))
theorem cTrace : Opens Tryd.prog 29 tTrace.rd := opens_struct (d := tTrace.rd) Tryd.underlying29 (by kernel_rfl) (opensFs_cons rfl cI (opensFs_cons rfl cI (opensFs_cons rfl cI (opensFs_cons rfl (opens_slice Tryd.underlying22 (by kernel_rfl) cIns (szp _)) (opensFs_cons rfl (opens_slice Tryd.underlying23 (by kernel_rfl) cExit (szp _)) (opensFs_cons rfl cExit (opensFs_one rfl cExit)))))))
theorem cOrd : Opens Tryd.prog 189 tOrd.rd := opens_struct (d := tOrd.rd) Tryd.underlying189 (by kernel_rfl) (opensFs_cons rfl cI (opensFs_cons rfl cI (opensFs_cons rfl cI (opensFs_cons rfl cI (opensFs_one rfl cI)))))
theorem cFn : Opens Tryd.prog 84 tFn.rd := opens_struct (d := tFn.rd) Tryd.underlying84 (by kernel_rfl) (opensFs_cons rfl cI (opensFs_cons rfl cI (opensFs_cons rfl cB (opensFs_cons rfl cIs (opensFs_one rfl (opens_slice Tryd.underlying82 (by kernel_rfl) cOrd (szp _)))))))
theorem cProg : Opens Tryd.prog 39 tProg.rd := opens_struct (d := tProg.rd) Tryd.underlying39 (by kernel_rfl) (opensFs_cons rfl (opens_slice Tryd.underlying35 (by kernel_rfl) cFn (szp _)) (opensFs_cons rfl cVals (opensFs_one rfl cSs)))
end Go.Proofs.YtefkifdhjabdiaaDoor
namespace Go.Proofs.YtefkifdhjabdiaaDoor
set_option maxHeartbeats 4000000
set_option linter.unusedVariables false
set_option linter.unusedSimpArgs false
set_option maxRecDepth 100000
open Go.RowKit
theorem cons_one {σ : Sg} {w : World} {c : CV} {cs : List CV} {vs : List Value} (h : CCs σ w (c :: cs) vs) : ∃ v r, vs = v :: r ∧ CC σ w c v ∧ CCs σ w cs r := h.cons_of
theorem nil_one {σ : Sg} {w : World} {vs : List Value} (h : CCs σ w [] vs) : vs = [] := List.eq_nil_of_length_eq_zero h.1.symm
theorem vals_one {σ : Sg} {w : World} {a : AV} {l : List AV} {vs : List Value} (h : All2 (CA σ w) (a :: l) vs) : ∃ v r, vs = v :: r ∧ CA σ w a v ∧ All2 (CA σ w) l r := h.cons_of
theorem vals_nil {σ : Sg} {w : World} {vs : List Value} (h : All2 (CA σ w) [] vs) : vs = [] := List.eq_nil_of_length_eq_zero h.1.symm
theorem x_bits : Extern.findNext Tryd.f108 = none := by kernel_rfl
theorem x_bits2 : Extern.find Tryd.f108 = some Extern.MathFloatBits.float64frombits := by kernel_rfl
theorem run_frombits (n : Int) (w : World) : (callFunc 108 #[.int .u64 n]).run Tryd.prog w = .ok (.value (.float .f64 n.toNat)) w := by
  have h1 : (Tryd.f108).name ≠ "runtime.NumGoroutine" := by decide
  have h2 : (Tryd.f108).body = none := by rfl
  have h3 : Tryd.prog.funcs[(108 : Nat)]? = some Tryd.f108 := Tryd.func108
  have hx : Extern.MathFloatBits.float64frombits #[.int .u64 n] = pure (.float .f64 n.toNat) := rfl
  simp [callFunc, h3, h1, h2, mark, x_bits, x_bits2, hx]
  rfl
theorem frombits_fun (n : Int) : AFun Tryd.prog 108 [.c (.int .u64 n)] (.c (.flt n.toNat)) := fun R w vs hR hG hv => by
  right
  obtain ⟨x, r, rfl, ⟨hx, _⟩, hr⟩ := vals_one hv
  obtain rfl := vals_nil hr
  subst hx
  exact ⟨_, w, run_frombits n w, Below.refl _ _, rfl⟩
def rangeV (n a b : Int) : Bool := decide (a ≤ n) && decide (n ≤ b)
noncomputable def oc_owithin : Orc where
  pure := fun f args => match f, args with
    | _, _ => none
  heap := fun _ _ _ => none
def owithin_lv : LV := ⟨([]), []⟩
noncomputable def owithin_T (n : Int) (a : Int) (b : Int) : Tree :=
  .ite (decide (a ≤ n))
  (.ret (.c (.bool (decide (n ≤ b)))) [])
  (.ret (.c (.lit false)) [])
theorem owithin_T_ok (n : Int) (a : Int) (b : Int) : aRun Tryd.prog oc_owithin Tryd.f106 owithin_lv 3000 [.code (bodyOf Tryd.f106)] ([.c (.int .i64 n), .c (.int .i64 a), .c (.int .i64 b)] ++ List.replicate (Func.ntmps Tryd.f106 - 3) .junk) [] = owithin_T n a b := by kernel_rfl
theorem owithin_fun (n : Int) (a : Int) (b : Int) : AFun Tryd.prog 106 [.c (.int .i64 n), .c (.int .i64 a), .c (.int .i64 b)] (.c (.bool (rangeV n a b))) :=
  AFun.of oc_owithin owithin_lv 3000 Tryd.func106 mixed rfl (by decide) (Nat.le_of_ble_eq_true rfl) _ (owithin_T_ok n a b) fun hF => by
    unfold owithin_T
    refine g_iteD (fun h0 => ?_) (fun h0 => ?_)
    · exact g_retb (by simp [rangeV, h0])
    · exact g_retl (by simp [rangeV, h0])

def fltV (v : EVal) : Nat := (IntKind.u64.wrap v.2).toNat
noncomputable def oc_floatv : Orc where
  pure := fun f args => match f, args with
    | 108, [a0] => match dA (.int .u64) a0 with
      | some x0 => some (.c (.flt ((Int.toNat x0))))
      | _ => none
    | _, _ => none
  heap := fun _ _ _ => none
def floatv_lv : LV := ⟨([]), []⟩
noncomputable def floatv_T (v : EVal) : Tree :=
  .call 108 [.c (.int .u64 (IntKind.wrap .u64 v.2))] false (.c (.flt (Int.toNat (IntKind.wrap .u64 v.2)))) <|
  .ret (.c (.flt (Int.toNat (IntKind.wrap .u64 v.2)))) [.cells 44 (Ty.enc tVal v)]
theorem floatv_T_ok (v : EVal) : aRun Tryd.prog oc_floatv Tryd.f73 floatv_lv 3000 [.code (bodyOf Tryd.f73)] ([.agg (tVal.enc v)] ++ List.replicate (Func.ntmps Tryd.f73 - 1) .junk) [] = floatv_T v := by kernel_rfl
theorem floatv_fun (v : EVal) : AFun Tryd.prog 73 [.agg (tVal.enc v)] (.c (.flt (fltV v))) :=
  AFun.of oc_floatv floatv_lv 3000 Tryd.func73 mixed rfl (by decide) (Nat.le_of_ble_eq_true rfl) _ (floatv_T_ok v) fun hF => by
    unfold floatv_T
    refine g_call (frombits_fun (IntKind.wrap .u64 v.2)) (fun h => nomatch h) ?_
    exact g_rt rfl rfl (by rfl)

def rightVF (v : EVal) : Bool := if v.1 = 0 then decide (v.2 = 0) else if v.1 = 1 then rangeV v.2 0 1 else if v.1 = 2 then rangeV v.2 (-2147483648) 2147483647 else if v.1 = 3 then (fOrd (fltV v) (fltV v) == some Ordering.eq) || decide (v.2 = 9221120237041090561) else if v.1 = 4 then decide (0 ≤ v.2) else if v.1 = 5 then decide (0 ≤ v.2) else if v.1 = 6 then rangeV v.2 0 15 else false
noncomputable def oc_rightV : Orc where
  pure := fun f args => match f, args with
    | 73, [a0] => match dA tVal a0 with
      | some x0 => some (.c (.flt (fltV x0)))
      | _ => none
    | 106, [a0, a1, a2] => match dA tI a0, dA tI a1, dA tI a2 with
      | some x0, some x1, some x2 => some (.c (.bool (rangeV x0 x1 x2)))
      | _, _, _ => none
    | _, _ => none
  heap := fun _ _ _ => none
def rightV_lv : LV := ⟨([]), []⟩
noncomputable def rightV_T (v : EVal) : Tree :=
  .ite (decide (v.1 = 0))
  (.ret (.c (.bool (decide (v.2 = 0)))) [.cells 44 (Ty.enc tVal v)])
  (.ite (decide (v.1 = 1))
   (.call 106 [.c (.int .i64 v.2), .c (.int .i64 0), .c (.int .i64 1)] false (.c (.bool (rangeV v.2 0 1))) <|
    .ret (.c (.bool (rangeV v.2 0 1))) [.cells 44 (Ty.enc tVal v)])
   (.ite (decide (v.1 = 2))
    (.call 106 [.c (.int .i64 v.2), .c (.int .i64 (-2147483648)), .c (.int .i64 2147483647)] false (.c (.bool (rangeV v.2 (-2147483648) 2147483647))) <|
     .ret (.c (.bool (rangeV v.2 (-2147483648) 2147483647))) [.cells 44 (Ty.enc tVal v)])
    (.ite (decide (v.1 = 3))
     (.call 73 [.agg (Ty.enc tVal v)] false (.c (.flt (fltV v))) <|
      .call 73 [.agg (Ty.enc tVal v)] false (.c (.flt (fltV v))) <|
      .ite ((fOrd (fltV v) (fltV v) == some Ordering.eq))
      (.ret (.c (.lit true)) [.cells 44 (Ty.enc tVal v)])
      (.ret (.c (.bool (decide (v.2 = 9221120237041090561)))) [.cells 44 (Ty.enc tVal v)]))
     (.ite (decide (v.1 = 4))
      (.ite (decide (v.1 = 4))
       (.ret (.c (.bool (decide ((0 : Int) ≤ v.2)))) [.cells 44 (Ty.enc tVal v)])
       (.ite (decide (v.1 = 6))
        (.call 106 [.c (.int .i64 v.2), .c (.int .i64 0), .c (.int .i64 15)] false (.c (.bool (rangeV v.2 0 15))) <|
         .ret (.c (.bool (rangeV v.2 0 15))) [.cells 44 (Ty.enc tVal v)])
        (.ret (.c (.lit false)) [.cells 44 (Ty.enc tVal v)])))
      (.ite (decide (v.1 = 5))
       (.ret (.c (.bool (decide ((0 : Int) ≤ v.2)))) [.cells 44 (Ty.enc tVal v)])
       (.ite (decide (v.1 = 6))
        (.call 106 [.c (.int .i64 v.2), .c (.int .i64 0), .c (.int .i64 15)] false (.c (.bool (rangeV v.2 0 15))) <|
         .ret (.c (.bool (rangeV v.2 0 15))) [.cells 44 (Ty.enc tVal v)])
        (.ret (.c (.lit false)) [.cells 44 (Ty.enc tVal v)])))))))
theorem rightV_T_ok (v : EVal) : aRun Tryd.prog oc_rightV Tryd.f85 rightV_lv 3000 [.code (bodyOf Tryd.f85)] ([.agg (tVal.enc v)] ++ List.replicate (Func.ntmps Tryd.f85 - 1) .junk) [] = rightV_T v := by kernel_rfl
theorem rightV_fun (v : EVal) : AFun Tryd.prog 85 [.agg (tVal.enc v)] (.c (.bool (rightVF v))) :=
  AFun.of oc_rightV rightV_lv 3000 Tryd.func85 mixed rfl (by decide) (Nat.le_of_ble_eq_true rfl) _ (rightV_T_ok v) fun hF => by
    unfold rightV_T
    refine g_iteD (fun h0 => ?_) (fun h0 => ?_)
    · exact g_retb (by simp [rightVF, h0])
    · refine g_iteD (fun h1 => ?_) (fun h1 => ?_)
      · refine g_call (owithin_fun v.2 0 1) (fun h => nomatch h) ?_
        exact g_retb (by simp [rightVF, h0, h1])
      · refine g_iteD (fun h2 => ?_) (fun h2 => ?_)
        · refine g_call (owithin_fun v.2 (-2147483648) 2147483647) (fun h => nomatch h) ?_
          exact g_retb (by simp [rightVF, h0, h1, h2])
        · refine g_iteD (fun h3 => ?_) (fun h3 => ?_)
          · refine g_call (floatv_fun v) (fun h => nomatch h) ?_
            refine g_call (floatv_fun v) (fun h => nomatch h) ?_
            refine g_ite (fun h4 => ?_) (fun h4 => ?_)
            · exact g_retl (by simp [rightVF, h0, h1, h2, h3, h4])
            · exact g_retb (by simp [rightVF, h0, h1, h2, h3, h4])
          · refine g_iteD (fun h4 => ?_) (fun h4 => ?_)
            · refine g_iteD (fun h5 => ?_) (fun h5 => ?_)
              · exact g_retb (by simp [rightVF, h0, h1, h2, h3, h4, h5])
              · refine g_iteD (fun h6 => ?_) (fun h6 => ?_)
                · refine g_call (owithin_fun v.2 0 15) (fun h => nomatch h) ?_
                  exact g_retb (by exfalso; omega)
                · exact g_retl (by exfalso; omega)
            · refine g_iteD (fun h5 => ?_) (fun h5 => ?_)
              · exact g_retb (by simp [rightVF, h0, h1, h2, h3, h4, h5])
              · refine g_iteD (fun h6 => ?_) (fun h6 => ?_)
                · refine g_call (owithin_fun v.2 0 15) (fun h => nomatch h) ?_
                  exact g_retb (by simp [rightVF, h0, h1, h2, h3, h4, h5, h6])
                · exact g_retl (by simp [rightVF, h0, h1, h2, h3, h4, h5, h6])

end Go.Proofs.YtefkifdhjabdiaaDoor
namespace Go.Proofs.YtefkifdhjabdiaaDoor
set_option linter.unusedVariables false
set_option linter.unusedSectionVars false
set_option linter.unusedSimpArgs false
open Go.RowKit

theorem leC.refl (c : CV) : leC c c := by cases c <;> simp [leC]
theorem leCs.refl : ∀ (l : List CV), leCs l l
  | [] => trivial
  | c :: r => ⟨leC.refl c, leCs.refl r⟩
theorem leA1.refl (a : A1) : leA1 a a := by
  cases a with
  | c c => exact leC.refl c
  | agg cs => exact leCs.refl cs
theorem leA1s.refl : ∀ (l : List A1), leA1s l l
  | [] => trivial
  | c :: r => ⟨leA1.refl c, leA1s.refl r⟩
theorem leAV.refl (a : AV) : leAV a a := by
  cases a with
  | junk => trivial
  | one a => exact leA1.refl a
  | tup l => exact leA1s.refl l
def leB : AB → AB → Prop
  | .dead, .dead => True
  | .dead, .ovec e t xs => xs = []
  | .vec e t xs, .ovec e' t' ys => e = e' ∧ (∃ h : t = t', h ▸ xs = ys) ∧ ys ≠ []
  | .ovec e t xs, .ovec e' t' ys => e = e' ∧ ∃ h : t = t', h ▸ xs = ys
  | .vec e t xs, .vec e' t' ys => e = e' ∧ ∃ h : t = t', h ▸ xs = ys
  | .cells e cs, .cells e' cs' => e = e' ∧ leCs cs cs'
  | a, b => a = b
theorem leB.refl (a : AB) : leB a a := by
  cases a with
  | dead => trivial
  | cells e cs => exact ⟨rfl, leCs.refl cs⟩
  | vec e t xs => exact ⟨rfl, rfl, rfl⟩
  | ovec e t xs => exact ⟨rfl, rfl, rfl⟩
  | map k kt et n m => exact rfl
def leHs : List AB → List AB → Prop
  | [], [] => True
  | a :: r, b :: s => leB a b ∧ leHs r s
  | _, _ => False
theorem leHs.refl : ∀ (l : List AB), leHs l l
  | [] => trivial
  | a :: r => ⟨leB.refl a, leHs.refl r⟩
/-- What it stands for says less. -/
def LeB (a b : AB) : Prop := (b ≠ .dead → a ≠ .dead) ∧ ∀ σ w k, Blk σ w k a → Blk σ w k b
theorem leB.to {a b : AB} (h : leB a b) : LeB (nrm a) (nrm b) := by
  have hE : ∀ {a b : AB}, a = b → LeB (nrm a) (nrm b) := fun h => by subst h; exact ⟨fun h => h, fun _ _ _ h => h⟩
  cases b with
  | dead => cases a <;> simp only [leB] at h <;> first | (exact hE rfl) | cases h
  | cells e cs =>
    cases a <;> simp only [leB] at h <;> try (cases h; done)
    case cells =>
      obtain ⟨rfl, h⟩ := h
      exact ⟨fun _ => by simp [nrm], fun σ w k ⟨c, hc, hcs⟩ => ⟨c, hc, leCs.to h hcs⟩⟩
  | vec e t xs =>
    cases a <;> simp only [leB] at h <;> try (cases h; done)
    case vec => obtain ⟨rfl, rfl, rfl⟩ := h; exact hE rfl
  | ovec e t xs =>
    cases a <;> simp only [leB] at h <;> try (cases h; done)
    case dead => subst h; exact hE (a := .dead) (b := .dead) rfl
    case vec =>
      obtain ⟨rfl, ⟨rfl, h⟩, hx⟩ := h
      subst h
      rw [nrm_ovec hx]
      exact hE (a := .vec ..) rfl
    case ovec => obtain ⟨rfl, rfl, rfl⟩ := h; exact hE rfl
  | map k kt et n m =>
    cases a <;> simp only [leB] at h <;> try (cases h; done)
    case map => exact hE h
theorem leHs.to : ∀ {H H' : List AB}, leHs H H' → H.length = H'.length ∧ ∀ b, LeB (gv H b) (gv H' b)
  | [], [], _ => ⟨rfl, fun b => ⟨fun h => h, fun _ _ _ h => h⟩⟩
  | a :: r, b :: s, h => by
    obtain ⟨h1, h2⟩ := leHs.to h.2
    refine ⟨by simp [h1], fun k => ?_⟩
    cases k with
    | zero => exact h.1.to
    | succ k => exact h2 k
  | [], _ :: _, h => h.elim
  | _ :: _, [], h => h.elim
theorem RelG.le {σ : Sg} {H H' : List AB} {w : World} (hr : RelG σ (gv H) w) (h : ∀ b, LeB (gv H b) (gv H' b)) : RelG σ (gv H') w where
  dom := fun b hb => hr.dom b ((h b).1 hb)
  blk := fun b hb => (h b).2 _ _ _ (hr.blk b ((h b).1 hb))
  inj := fun b b' hb hb' e => hr.inj b b' ((h b).1 hb) ((h b').1 hb') e
  out := fun b hb => hr.out b ((h b).1 hb)
  rlt := hr.rlt
  glob := hr.glob
theorem Out.le {σ0 σ : Sg} {G0 : Nat → AB} {H H' : List AB} {W w : World} (ho : Out σ0 G0 W σ (gv H) w) (h : ∀ b, LeB (gv H b) (gv H' b)) : Out σ0 G0 W σ (gv H') w := ⟨ho.chg, ho.ext, fun b hb => ho.loc b ((h b).1 hb), ho.R⟩
/-- A state that says less. -/
theorem RunN.less {n0 : Nat} {P : Program} {f : FuncId} {Q : AV → List AB → Prop} {todo : List Item} {env env' : List AV} {H H' : List AB} (hE : leAVs env env') (hH : leHs H H') (h : RunN n0 P f Q todo env' H') : RunN n0 P f Q todo env H := fun σ0 G0 W b a w cs h0 h1 h2 h3 => by
  refine h σ0 G0 W b a w cs h0 h1 h2 ?_
  obtain ⟨σ, h3⟩ := h3
  obtain ⟨hl, hB⟩ := hH.to
  have hE := leAVs.to hE
  refine ⟨σ, fun b hb => by rw [← hl]; exact h3.D b hb, ⟨hE.1.symm.trans h3.env.1, fun t => ?_⟩, h3.rel.le hB, h3.out.le hB, h3.defers⟩
  by_cases ht : t < env.length
  · have ht' : t < env'.length := by rw [← hE.1]; exact ht
    have h4 := h3.env.2 t
    rw [List.getD_eq_getElem?_getD, List.getElem?_eq_getElem ht] at h4
    rw [List.getD_eq_getElem?_getD, List.getElem?_eq_getElem ht']
    exact hE.2 t _ _ (List.getElem?_eq_getElem ht) (List.getElem?_eq_getElem ht') σ w _ h4
  · rw [List.getD_eq_getElem?_getD, List.getElem?_eq_none (by rw [← hE.1]; omega)]; trivial
/-- Names, dropped and changed. -/
theorem keep_rel {n0 : Nat} {σ0 σ : Sg} {G0 : Nat → AB} {H : List AB} {W w : World} (gl : List Nat) (hn : ∀ k, k < n0 → gl[k]? = some k) (hnd : gl.Nodup) (h0 : ∀ k, σ0.D k → k < n0) (hr : RelG σ (gv H) w) (ho : Out σ0 G0 W σ (gv H) w) :
    RelG (renS gl σ) (gv (gl.map (fun b => renB gl (rgv H b)))) w ∧ Out σ0 G0 W (renS gl σ) (gv (gl.map (fun b => renB gl (rgv H b)))) w := by
  have gk : ∀ k, gv (gl.map (fun b => renB gl (rgv H b))) k ≠ .dead → k < gl.length ∧ gv H (gl.getD k 0) ≠ .dead ∧ gv (gl.map (fun b => renB gl (rgv H b))) k = renB gl (gv H (gl.getD k 0)) := fun k hk => by
    by_cases hl : k < gl.length
    · have e : gv (gl.map (fun b => renB gl (rgv H b))) k = renB gl (gv H (gl.getD k 0)) := by
        rw [gv_rgv H, ← nrm_renB]
        refine gv_some ?_
        simp [List.getElem?_map, List.getElem?_eq_getElem hl, List.getD_eq_getElem?_getD]
      refine ⟨hl, fun hd => hk ?_, e⟩
      rw [e, hd]; rfl
    · exact absurd (gv_none (by rw [List.getElem?_map, List.getElem?_eq_none (Nat.le_of_not_lt hl)]; rfl)) hk
  refine ⟨⟨fun b hb => ?_, fun b hb => ?_, fun b b' hb hb' he => ?_, fun b hb => ?_, hr.rlt, hr.glob⟩, ⟨ho.chg, ⟨fun k hk => ?_, ho.ext.R, ho.ext.keep, ho.ext.shape⟩, fun b hb => ?_, ho.R⟩⟩
  · obtain ⟨hl, hd, _⟩ := gk b hb
    exact ⟨hl, hr.dom _ hd⟩
  · obtain ⟨hl, hd, e⟩ := gk b hb
    rw [e]
    exact renB_ok (hr.blk _ hd)
  · obtain ⟨hl, hd, _⟩ := gk b hb
    obtain ⟨hl', hd', _⟩ := gk b' hb'
    have := hr.inj _ _ hd hd' he
    rw [List.getD_eq_getElem?_getD, List.getD_eq_getElem?_getD, List.getElem?_eq_getElem hl, List.getElem?_eq_getElem hl'] at this
    have hp := List.pairwise_iff_getElem.1 hnd
    rcases Nat.lt_trichotomy b b' with h | h | h
    · exact absurd this (hp b b' hl hl' h)
    · exact h
    · exact absurd this.symm (hp b' b hl' hl h)
  · obtain ⟨hl, hd, _⟩ := gk b hb
    exact hr.out _ hd
  · have hk0 := hn k (h0 k hk)
    obtain ⟨h4, h5⟩ := ho.ext.ι k hk
    have e : gl.getD k 0 = k := by simp [List.getD_eq_getElem?_getD, hk0]
    exact ⟨⟨(List.getElem?_eq_some_iff.1 hk0).1, by rw [e]; exact h4⟩, by simp only [renS, e]; exact h5⟩
  · obtain ⟨hl, hd, _⟩ := gk b hb
    exact ho.loc _ hd
/-- What such a function's end is to be: what it made to be read is given up; the result and the memory say no less. -/
def finQ (P : Program) (n0 : Nat) (r : AV) (Ht : List AB) (v : AV) (H : List AB) : Prop := Good P (fun _ _ _ => False) (fun v' H' => ∃ gl : List Nat, (∀ k, k < n0 → gl[k]? = some k) ∧ gl.Nodup ∧ leAV (renA gl v') r ∧ leHs (gl.map (fun b => renB gl (rgv H' b))) Ht) (frzA H v fun v' l => .ret v' (killL l H))
theorem RunN.fin {n0 : Nat} {P : Program} {f : FuncId} {r : AV} {H Ht : List AB} {todo : List Item} {env : List AV} (h : RunN n0 P f (finQ P n0 r Ht) todo env H) : RunN n0 P f (fun v H' => v = r ∧ H' = Ht) todo env H := fun σ0 G0 W b a w cs h0 h1 h2 h3 => by
  obtain ⟨v, w', fr, r1, H', σ', q1, q2, q3, q4, q5, q6, q7⟩ := h σ0 G0 W b a w cs h0 h1 h2 h3
  obtain ⟨v', l, ⟨gl, g1, g2, g3, g4⟩, hlt, hfz⟩ := frzA_ok q1
  have hs := Stp.frz (G' := gv (killL l H')) (l := l) q3 (fun b hb => gv_kill hb)
  have e : updG (gv H') l (gv (killL l H')) = gv (killL l H') := updG_gv fun b hb => gv_kill_off hb
  have hrel := hs.rel q3
  have hout := q4.step q3 hs
  rw [e] at hrel hout
  have hv' : CA (fSD σ' (gv H') l) w' v' v := (hfz σ' (gv H') w' v l (fun _ h => h) (fun _ _ => rfl) q3 (q5.ext fS_ext)).ext fSD_ext
  obtain ⟨k1, k2⟩ := keep_rel gl g1 g2 h0 hrel hout
  obtain ⟨hl, hB⟩ := g4.to
  refine ⟨v, w', fr, r, Ht, renS gl (fSD σ' (gv H') l), ⟨rfl, rfl⟩, fun n hn => ?_, k1.le hB, k2.le hB, g3.to _ _ _ (renA_ok hv'), q6, q7⟩
  rw [← hl]
  simpa using hn.1
section
variable {P : Program} {f : Nat} {fn : Func} {body : Code} {args : List AV} {r : AV} {H Ht : List AB}
theorem AFunH.of_run2 (hf : P.funcs[f]? = some fn) (hb : fn.body = some body) (hn : (fn.name == "runtime.NumGoroutine") = false) (hl : args.length ≤ fn.ntmps)
    (ha : args.map (renA (List.range H.length)) = args) (hH : (List.range H.length).map (fun b => renB (List.range H.length) (rgv H b)) = H) (hle : H.length ≤ Ht.length)
    (h : FactsH args H → RunN H.length P f (fun v H' => v = r ∧ H' = Ht) [.code body] (args ++ List.replicate (fn.ntmps - args.length) .junk) H) : AFunH P f args H r Ht (List.range Ht.length) where
  len := hle
  lt := fun b hb => by simpa using hb
  off := fun b hb => by
    have hb : Ht.length ≤ b := by simpa using hb
    rw [gv_none (List.getElem?_eq_none hb), gv_none (List.getElem?_eq_none (by omega))]
  act := fun σ w vs hrel hfr hv => by
    left
    refine ⟨enters_of hf hn hb _ _, ?_⟩
    have rg : ∀ k, k < H.length → (List.range H.length).getD k 0 = k := fun k hk => by simp [List.getD_eq_getElem?_getD, List.getElem?_range hk]
    have lt_of : ∀ b, gv H b ≠ .dead → b < H.length := fun b hb => by
      rcases Nat.lt_or_ge b H.length with h | h
      · exact h
      · exact absurd (gv_none (List.getElem?_eq_none h)) hb
    have hv1 : All2 (CA (renS (List.range H.length) σ) w) args vs := by
      rw [← ha]
      exact ⟨by simpa using hv.1, fun i x y hx hy => by
        rw [List.getElem?_map] at hx
        obtain ⟨q, hq, rfl⟩ := Option.map_eq_some_iff.1 hx
        exact renA_ok (hv.2 i q y hq hy)⟩
    have hB : ∀ b, b < H.length → renB (List.range H.length) (gv H b) = gv H b := fun b hb => by
      have := congrArg (·[b]?) hH
      simp only [List.getElem?_map, List.getElem?_range hb, Option.map_some] at this
      have e2 : H[b]? = some (rgv H b) := by simp [rgv, List.getD_eq_getElem?_getD, List.getElem?_eq_getElem hb]
      rw [e2] at this
      injection this with this
      rw [gv_rgv, ← nrm_renB, this]
    have hrel1 : RelG (renS (List.range H.length) σ) (gv H) w := ⟨fun b hb => ⟨by simpa using lt_of b hb, by rw [rg b (lt_of b hb)]; exact hrel.dom b hb⟩, fun b hb => by
      have h1 := renB_ok (gl := List.range H.length) (hrel.blk b hb)
      rw [hB b (lt_of b hb)] at h1
      show Blk _ w (σ.ι ((List.range H.length).getD b 0)) _
      rw [rg b (lt_of b hb)]
      exact h1, fun b b' hb hb' he => hrel.inj b b' hb hb' (by
        have e1 := rg b (lt_of b hb)
        have e2 := rg b' (lt_of b' hb')
        simp only [renS, e1, e2] at he
        exact he), fun b hb => by
      have := hrel.out b hb
      simp only [renS, rg b (lt_of b hb)]
      exact this, hrel.rlt, hrel.glob⟩
    refine (calls_enter (n0 := H.length) (σ0 := renS (List.range H.length) σ) (fun k hk => by simpa using hk.1) hf hb hl (fun b hb => by simpa using hb.1) hrel1 hv1 (h ⟨_, w, vs, hv, hrel⟩)).mono fun e w' ⟨v, r1, H', σ', he, ⟨e1, e2⟩, q2, q3, q4, q5⟩ => ⟨v, he, ?_⟩
    subst e1; subst e2
    let σ2 : Sg := ⟨fun k => if k < H'.length then σ'.ι k else σ.ι k, fun k => σ.D k ∨ k < H'.length, σ'.R⟩
    have ιk : ∀ k, k < H'.length → σ2.ι k = σ'.ι k := fun k hk => by show (if k < H'.length then _ else _) = _; rw [if_pos hk]
    have hx : Ext σ' w' σ2 w' := ⟨fun k hk => ⟨.inr (q2 k hk), ιk k (q2 k hk)⟩, fun k hk => hk, fun _ _ _ => rfl, fun k c e fr h => ⟨c, fr, h, rfl⟩⟩
    have fp : ∀ k, fpAll (renS (List.range H.length) σ) (gv H) k → fpOf σ (gv H) (List.range H'.length) k := fun k ⟨b, hb, hk⟩ => by
      have hbl := lt_of b hb
      simp only [renS, rg b hbl] at hk
      exact ⟨b, by simp; omega, hb, hk⟩
    refine ⟨σ2, ⟨fun b => by simp [σ2], ⟨fun k hk => ⟨.inl hk, ?_⟩, q4.ext.R, q4.ext.keep, q4.ext.shape⟩, q4.chg.mono fp, fun b hb hd => ?_, fun b hb hd => ?_, fun b hb b' hb' hd hd' he => ?_, fun k hk => (q4.R k hk).imp id (Or.imp id (fp k)), fun b hb hd => ?_, q3.rlt⟩, q5.ext hx⟩
    · rcases Nat.lt_or_ge k H'.length with hk1 | hk1
      · rcases Nat.lt_or_ge k H.length with hk2 | hk2
        · rw [ιk k hk1]
          have := (q4.ext.ι k ⟨by simpa using hk2, by rw [rg k hk2]; exact hk⟩).2
          rw [this]
          simp only [renS, rg k hk2]
        · exact absurd hk (hfr k (by simpa using hk1) hk2)
      · show (if k < H'.length then _ else _) = _
        rw [if_neg (by omega)]
    · have hb1 : b < H'.length := by simpa using hb
      rw [ιk b hb1]
      exact (q3.blk _ hd).same hx rfl
    · have hb1 : b < H'.length := by simpa using hb
      rw [ιk b hb1]
      rcases q4.loc _ hd with h | h
      · exact .inl (fp _ h)
      · exact .inr h
    · have hb1 : b < H'.length := by simpa using hb
      have hb2 : b' < H'.length := by simpa using hb'
      rw [ιk b hb1, ιk b' hb2] at he
      exact q3.inj _ _ hd hd' he
    · have hb1 : b < H'.length := by simpa using hb
      rw [ιk b hb1]
      exact q3.out _ hd
/-- By its abstract execution. -/
theorem AFunH.ofL (oc : Orc) (lv : LV) (n : Nat) (hf : P.funcs[f]? = some fn) (hm : P.follows .mixedOrders = true) (hb : fn.body = some body) (hn : (fn.name == "runtime.NumGoroutine") = false) (hl : args.length ≤ fn.ntmps)
    (ha : args.map (renA (List.range H.length)) = args) (hH : (List.range H.length).map (fun b => renB (List.range H.length) (rgv H b)) = H) (hle : H.length ≤ Ht.length) (T : Tree)
    (hT : aRun P oc fn lv n [.code body] (args ++ List.replicate (fn.ntmps - args.length) .junk) H = T)
    (h : FactsH args H → Good P (RunN H.length P f (finQ P H.length r Ht)) (finQ P H.length r Ht) T) : AFunH P f args H r Ht (List.range Ht.length) :=
  .of_run2 hf hb hn hl ha hH hle fun hF => RunN.fin (run_of hf hm n _ _ _ (by rw [hT]; exact h hF))
end
section
variable {P : Program} {S : List Item → List AV → List AB → Prop} {Q : AV → List AB → Prop}
theorem g_fin {n0 : Nat} {r : AV} {Ht : List AB} {v : AV} {H : List AB} (h : Good P (fun _ _ _ => False) (fun v' H' => ∃ gl : List Nat, (∀ k, k < n0 → gl[k]? = some k) ∧ gl.Nodup ∧ leAV (renA gl v') r ∧ leHs (gl.map (fun b => renB gl (rgv H' b))) Ht) (frzA H v fun v' l => .ret v' (killL l H))) : Good P S (finQ P n0 r Ht) (.ret v H) := h
theorem g_end {n0 : Nat} {r : AV} {Ht : List AB} {v : AV} {H : List AB} (gl : List Nat) (h1 : ∀ k, k < n0 → gl[k]? = some k) (h2 : gl.Nodup) (h3 : leAV (renA gl v) r) (h4 : leHs (gl.map (fun b => renB gl (rgv H b))) Ht) : Good P S (fun v' H' => ∃ gl : List Nat, (∀ k, k < n0 → gl[k]? = some k) ∧ gl.Nodup ∧ leAV (renA gl v') r ∧ leHs (gl.map (fun b => renB gl (rgv H' b))) Ht) (.ret v H) := ⟨gl, h1, h2, h3, h4⟩
end
theorem AFunH.frameB {P : Program} {f : Nat} {args args2 : List AV} {H H2 Ht H2' : List AB} {r r2 : AV} {wr2 : List Nat} (gl : List Nat) (h : AFunH P f args H r Ht (List.range Ht.length)) (hnd : decide gl.Nodup = true) (hlt : (gl.all fun b => Nat.blt b H2.length) = true)
    (hH : gl.map (rgv H2) = H.map (upB (gmap gl H2.length))) (ha : args2 = args.map (upA (gmap gl H2.length))) (hr : r2 = upA (gmap gl H2.length) r) (hH' : H2' = frameOut gl H2 Ht) (hw : wr2 = frameWr gl H2.length Ht.length) : AFunH P f args2 H2 r2 H2' wr2 :=
  h.frame gl (of_decide_eq_true hnd) (fun b hb => Nat.le_of_ble_eq_true (List.all_eq_true.1 hlt b hb)) hH ha hr hH' hw
theorem leAVs.same : ∀ {l l' : List AV}, l = l' → leAVs l l'
  | [], _, h => by subst h; trivial
  | a :: r, _, h => by subst h; exact ⟨leAV.refl a, leAVs.same rfl⟩
theorem leAVs.skip : ∀ (n : Nat) {l l' : List AV}, l.take n = l'.take n → leAVs (l.drop n) (l'.drop n) → leAVs l l'
  | 0, _, _, _, h => h
  | n + 1, [], [], _, h => h
  | n + 1, a :: r, b :: s, h, h' => by
    simp only [List.take_succ_cons, List.cons.injEq] at h
    obtain ⟨rfl, h⟩ := h
    exact ⟨leAV.refl a, leAVs.skip n h h'⟩
  | n + 1, [], b :: s, h, _ => by simp at h
  | n + 1, a :: r, [], h, _ => by simp at h
/-! what a callee's memory is, in its caller's -/
def ovecAs (e : TypeId) (t : Ty) : Option AB → Option (List t.El)
  | some (.ovec e' t' xs) => if h : t' = t then (if Nat.beq e' e then some (h ▸ xs) else none) else none
  | _ => none
def vecAs (e : TypeId) (t : Ty) : Option AB → Option (List t.El)
  | some (.vec e' t' xs) => if h : t' = t then (if Nat.beq e' e then some (h ▸ xs) else none) else none
  | _ => none
def cellsAs (e : TypeId) : Option AB → Option (List CV)
  | some (.cells e' cs) => if Nat.beq e' e then some cs else none
  | _ => none
def dC (t : Ty) (c : CV) : Option t.El := match t.dec [c] with
  | some (x, []) => some x
  | _ => none
def hres (gl : List Nat) (H : List AB) (r : AV) (Ht : List AB) : Option (AV × List AB × List Nat) := some (upA (gmap gl H.length) r, frameOut gl H Ht, frameWr gl H.length Ht.length)
end Go.Proofs.YtefkifdhjabdiaaDoor
namespace Go.Proofs.YtefkifdhjabdiaaDoor
set_option linter.unusedVariables false
set_option linter.unusedSimpArgs false
open Go.RowKit
theorem AFunH.ofPro {P : Program} {f g : Nat} {t u : Ty} {ys : List t.El} {xs : List u.El} {e e2 : TypeId} {n b0 b1 : Nat} {r : AV} {H : List AB}
    (h : AFun P f [.c (.ro t ys), .c (.fnc (.fn0 g) (.pro (.slice u) [xs] 0 0))] r) (hr : r.flat = true) (h0 : gv H b0 = .cells e [.sl b1 u.sz 0 n]) (h1 : gv H b1 = .vec e2 u xs) (hn : n = xs.length) :
    AFunH P f [.c (.ro t ys), .c (.fnc (.fn0 g) (.ptr b0 0 0 0))] H r H [] where
  len := Nat.le_refl _
  lt := fun b hb => by cases hb
  off := fun _ _ => rfl
  act := fun σ w vs hrel hD hv => by
    obtain ⟨x0, r0, rfl, q0, hr0⟩ := hv.cons_of
    obtain ⟨x1, r1, rfl, q1, hr1⟩ := hr0.cons_of
    obtain rfl := List.eq_nil_of_length_eq_zero hr1.1.symm
    obtain ⟨f', cs, u', rfl, hf, hD0, rfl⟩ := q1
    have hB := hrel.blk b0 (by rw [h0]; simp)
    rw [h0] at hB
    obtain ⟨c, hc, hcs⟩ := hB
    obtain ⟨v0, rr, hv0, k0, k1⟩ := hcs.cons_of
    obtain rfl := List.eq_nil_of_length_eq_zero k1.1.symm
    have hro : CC (fS σ (gv H) [b0, b1]) w (.ro u xs) v0 := vec_reads hrel h1 hn k0 (by simp)
    have hR0 : fR σ (gv H) [b0, b1] (σ.ι b0) := .inr ⟨b0, by simp, by rw [h0]; simp, rfl⟩
    have hpro : (Rd.slice (Ty.slice u).rd).K (fR σ (gv H) [b0, b1]) w [xs] [.slice (some ⟨σ.ι b0, 0, none⟩) 1 1] := by
      refine ⟨some ⟨σ.ι b0, 0, none⟩, 1, rfl, Nat.le_refl _, by omega, by simp, rfl, by simp, fun _ => ⟨_, rfl, hR0, (Array.getElem?_eq_some_iff.1 hc).1, fun i x hi => ?_⟩⟩
      have hi0 : i = 0 := by
        have := (List.getElem?_eq_some_iff.1 hi).1
        simp at this
        omega
      subst hi0
      simp at hi
      subst hi
      refine ⟨[v0], hro, fun j u hj => ?_⟩
      have hj0 : j = 0 := by
        have := (List.getElem?_eq_some_iff.1 hj).1
        simp at this
        omega
      subst hj0
      rw [add_eq rfl, cell_row hc, hv0]
      simpa using hj
    have h2 : All2 (CA ⟨id, fun _ => False, fR σ (gv H) [b0, b1]⟩ w) [.c (.ro t ys), .c (.fnc (.fn0 g) (.pro (.slice u) [xs] 0 0))] [x0, .func (.func f') #[] (cs.push (.pointer (some ⟨σ.ι b0, 0 * 0 + 0, none⟩)))] :=
      .cons ((Rd.slice t.rd).mono (fun k hk => .inl hk) q0) (.cons ⟨f', cs, _, rfl, hf, ⟨_, 1, hpro, by simp, by simp⟩⟩ .nil)
    have hst : ∀ w', Below w.heap.size w w' → Stp σ (gv H) w [] (gv H) σ w' := fun w' hb => Stp.quiet (fun _ => Iff.rfl) rfl (fun _ h => h) hb (fun _ h => .inl h) fun k hk => Nat.lt_of_lt_of_le (hrel.rlt k hk) hb.size
    have h3 := h (fR σ (gv H) [b0, b1]) w _ (fun k hk => by
      rcases hk with hk | ⟨b, hb, ha, e⟩
      · exact hrel.rlt k hk
      · rw [← e]; exact (hrel.blk b ha).lt ha) (hrel.glob.mono fun k h => .inl h) h2
    rcases h3 with ⟨hen, hc⟩ | ⟨v, w', hval, hb, hv⟩
    · exact .inl ⟨hen, hc.mono fun e w' ⟨v, he, hb, hv⟩ => ⟨v, he, σ, hst w' hb, CA.flat hr hv _ _⟩⟩
    · exact .inr ⟨v, w', hval, σ, hst w' hb, CA.flat hr hv _ _⟩
/-- Cells as data. -/
def dCs (t : Ty) (cs : List CV) : Option t.El := match t.dec cs with
  | some (x, []) => some x
  | _ => none
/-- A block as a map of given types. -/
def mapAs (k : TypeId) (kt et : Ty) : Option AB → Option (Nat × (kt.El → Option et.El))
  | some (.map k' kt' et' n m) => if h : kt' = kt ∧ et' = et then (if Nat.beq k' k then some (n, cast (by rw [h.1, h.2]) m) else none) else none
  | _ => none
end Go.Proofs.YtefkifdhjabdiaaDoor
namespace Go.Proofs.YtefkifdhjabdiaaDoor
set_option maxHeartbeats 4000000
set_option linter.unusedVariables false
set_option linter.unusedSimpArgs false
set_option maxRecDepth 100000
open Go.RowKit
theorem x_bits3 : Extern.findNext Tryd.f107 = none := by kernel_rfl
theorem x_bits4 : Extern.find Tryd.f107 = some Extern.MathFloatBits.float64bits := by kernel_rfl
theorem run_tobits (n : Nat) (w : World) : (callFunc 107 #[.float .f64 n]).run Tryd.prog w = .ok (.value (.int .u64 n)) w := by
  have h1 : (Tryd.f107).name ≠ "runtime.NumGoroutine" := by decide
  have h2 : (Tryd.f107).body = none := by rfl
  have h3 : Tryd.prog.funcs[(107 : Nat)]? = some Tryd.f107 := Tryd.func107
  have hx : Extern.MathFloatBits.float64bits #[.float .f64 n] = pure (.int .u64 n) := rfl
  simp [callFunc, h3, h1, h2, mark, x_bits3, x_bits4, hx]
  rfl
theorem tobits_fun (n : Nat) (hn : n < 18446744073709551616) : AFun Tryd.prog 107 [.c (.flt n)] (.c (.int .u64 (n : Int))) := fun R w vs hR hG hv => by
  right
  obtain ⟨x, r, rfl, hx, hr⟩ := vals_one hv
  obtain rfl := vals_nil hr
  have hx : x = .float .f64 n := hx
  subst hx
  refine ⟨_, w, run_tobits n w, Below.refl _ _, rfl, ?_⟩
  simp [inR, IntKind.min, IntKind.max, IntKind.signed, IntKind.bits]
  omega
def ofV (n : Nat) : EVal := if (fOrd n n != some Ordering.eq) = true then (3, 9221120237041090561) else (3, IntKind.i64.wrap (n : Int))
noncomputable def oc_ofv : Orc where
  pure := fun f args => match f, args with
    | 107, [.one (.c (.flt x0))] => some (.c (.int .u64 (((x0 : Nat) : Int))))
    | _, _ => none
  heap := fun _ _ _ => none
def ofv_lv : LV := ⟨([]), []⟩
noncomputable def ofv_T (n : Nat) : Tree :=
  .ite ((fOrd n n != some Ordering.eq))
  (.ret (.agg [.int .i64 3, .int .i64 9221120237041090561]) [.cells 44 [.int .i64 3, .int .i64 9221120237041090561]])
  (.call 107 [.c (.flt n)] false (.c (.int .u64 ((n : Nat) : Int))) <|
   .ret (.agg [.int .i64 3, .int .i64 (IntKind.wrap .i64 ((n : Nat) : Int))]) [.cells 44 [.int .i64 3, .int .i64 (IntKind.wrap .i64 ((n : Nat) : Int))]])
theorem ofv_T_ok (n : Nat) : aRun Tryd.prog oc_ofv Tryd.f72 ofv_lv 3000 [.code (bodyOf Tryd.f72)] ([.c (.flt n)] ++ List.replicate (Func.ntmps Tryd.f72 - 1) .junk) [] = ofv_T n := by kernel_rfl
theorem ofv_fun (n : Nat) (hn : fOrd n n = some .eq → n < 18446744073709551616) : AFun Tryd.prog 72 [.c (.flt n)] (.agg (Ty.enc tVal (ofV n))) :=
  AFun.of oc_ofv ofv_lv 3000 Tryd.func72 mixed rfl (by decide) (Nat.le_of_ble_eq_true rfl) _ (ofv_T_ok n) fun hF => by
    unfold ofv_T
    refine g_ite (fun h0 => ?_) (fun h0 => ?_)
    · exact g_rt rfl rfl (by rw [ofV, if_pos h0]; exact leAV.refl _)
    · refine g_call (tobits_fun n (hn (by simp_all))) (fun h => nomatch h) ?_
      exact g_rt rfl rfl (by rw [ofV, if_neg (by rw [h0]; decide)]; exact leAV.refl _)

def ofO (op : BinOp) (a b : Nat) : EVal := match floatBits op .f64 a b with
  | some r => ofV r
  | none => (3, 9221120237041090561)
theorem ofo_fun (op : BinOp) (a b : Nat) : AFun Tryd.prog 72 [.c (.flo op a b)] (.agg (tVal.enc (ofO op a b))) := fun R w vs hR hG hv => by
  obtain ⟨x, r, rfl, ⟨q, hx, h1, h2⟩, hr⟩ := vals_one hv
  obtain rfl := vals_nil hr
  subst hx
  have e : ofO op a b = ofV q := by
    unfold ofO
    cases hb : floatBits op .f64 a b with
    | some r => rw [h1 r hb]
    | none => show (3, 9221120237041090561) = ofV q; unfold ofV; rw [h2 hb]; rfl
  rw [e]
  refine ofv_fun q (fun hq => ?_) R w _ hR hG (All2.cons rfl All2.nil)
  cases hb : floatBits op .f64 a b with
  | some r =>
    rw [h1 r hb]
    have := floatBits_wf hb
    simpa [Lit.wf] using this
  | none => rw [h2 hb] at hq; cases hq
def truthV (b : Bool) : EVal := if b = true then (1, 1) else (1, 0)
noncomputable def oc_truthv : Orc where
  pure := fun f args => match f, args with
    | _, _ => none
  heap := fun _ _ _ => none
def truthv_lv : LV := ⟨([]), []⟩
noncomputable def truthv_T (b : Bool) : Tree :=
  .ite (b)
  (.ret (.agg [.int .i64 1, .int .i64 1]) [.cells 44 [.int .i64 1, .int .i64 1]])
  (.ret (.agg [.int .i64 1, .int .i64 0]) [.cells 44 [.int .i64 1, .int .i64 0]])
theorem truthv_T_ok (b : Bool) : aRun Tryd.prog oc_truthv Tryd.f69 truthv_lv 3000 [.code (bodyOf Tryd.f69)] ([.c (.bool b)] ++ List.replicate (Func.ntmps Tryd.f69 - 1) .junk) [] = truthv_T b := by kernel_rfl
theorem truthv_fun (b : Bool) : AFun Tryd.prog 69 [.c (.bool b)] (.agg (Ty.enc tVal (truthV b))) :=
  AFun.of oc_truthv truthv_lv 3000 Tryd.func69 mixed rfl (by decide) (Nat.le_of_ble_eq_true rfl) _ (truthv_T_ok b) fun hF => by
    unfold truthv_T
    refine g_ite (fun h0 => ?_) (fun h0 => ?_)
    · exact g_rt rfl rfl (by rw [truthV, if_pos h0]; exact leAV.refl _)
    · exact g_rt rfl rfl (by rw [truthV, if_neg (by rw [h0]; decide)]; exact leAV.refl _)

def takenV (v : EVal) : EVal := if rightVF v = true then v else (0, 0)
noncomputable def oc_otaken : Orc where
  pure := fun f args => match f, args with
    | 85, [a0] => match dA tVal a0 with
      | some x0 => some (.c (.bool (rightVF x0)))
      | _ => none
    | _, _ => none
  heap := fun _ _ _ => none
def otaken_lv : LV := ⟨([]), []⟩
noncomputable def otaken_T (v : EVal) : Tree :=
  .call 85 [.agg (Ty.enc tVal v)] false (.c (.bool (rightVF v))) <|
  .ite ((!(rightVF v)))
  (.ret (.agg [.int .i64 0, .int .i64 0]) [.cells 44 (Ty.enc tVal v), .cells 44 [.int .i64 0, .int .i64 0]])
  (.ret (.agg (Ty.enc tVal v)) [.cells 44 (Ty.enc tVal v), .cells 44 (Ty.enc tVal v)])
theorem otaken_T_ok (v : EVal) : aRun Tryd.prog oc_otaken Tryd.f68 otaken_lv 3000 [.code (bodyOf Tryd.f68)] ([.agg (tVal.enc v)] ++ List.replicate (Func.ntmps Tryd.f68 - 1) .junk) [] = otaken_T v := by kernel_rfl
theorem otaken_fun (v : EVal) : AFun Tryd.prog 68 [.agg (tVal.enc v)] (.agg (Ty.enc tVal (takenV v))) :=
  AFun.of oc_otaken otaken_lv 3000 Tryd.func68 mixed rfl (by decide) (Nat.le_of_ble_eq_true rfl) _ (otaken_T_ok v) fun hF => by
    unfold otaken_T
    refine g_call (rightV_fun v) (fun h => nomatch h) ?_
    refine g_iteN (fun h0 => ?_) (fun h0 => ?_)
    · exact g_rt rfl rfl (by rw [takenV, if_neg (by rw [h0]; decide)]; exact leAV.refl _)
    · exact g_rt rfl rfl (by rw [takenV, if_pos h0]; exact leAV.refl _)

noncomputable def oc_failv : Orc where
  pure := fun f args => match f, args with
    | _, _ => none
  heap := fun _ _ _ => none
def failv_lv : LV := ⟨([]), []⟩
noncomputable def failv_T (n : Int) : Tree :=
  .ret (.tup [.agg [.int .i64 0, .int .i64 0], .c (.int .i64 n)]) [.cells 44 [.int .i64 0, .int .i64 0]]
theorem failv_T_ok (n : Int) : aRun Tryd.prog oc_failv Tryd.f74 failv_lv 3000 [.code (bodyOf Tryd.f74)] ([.c (.int .i64 n)] ++ List.replicate (Func.ntmps Tryd.f74 - 1) .junk) [] = failv_T n := by kernel_rfl
theorem failv_fun (n : Int) : AFun Tryd.prog 74 [.c (.int .i64 n)] (.tup [.agg (Ty.enc tVal ((((0 : Int), (0 : Int)) : EVal))), .c (.int .i64 (n))]) :=
  AFun.of oc_failv failv_lv 3000 Tryd.func74 mixed rfl (by decide) (Nat.le_of_ble_eq_true rfl) _ (failv_T_ok n) fun hF => by
    unfold failv_T
    exact g_rt rfl rfl (by exact leAV.refl _)

def wholeV (n : Int) : EVal × Int := if rangeV n (-2147483648) 2147483647 = true then ((2, n), -1) else ((0, 0), 1)
noncomputable def oc_wholev : Orc where
  pure := fun f args => match f, args with
    | 74, [a0] => match dA tI a0 with
      | some x0 => some (.tup [.agg (Ty.enc tVal ((((0 : Int), (0 : Int)) : EVal))), .c (.int .i64 (x0))])
      | _ => none
    | 106, [a0, a1, a2] => match dA tI a0, dA tI a1, dA tI a2 with
      | some x0, some x1, some x2 => some (.c (.bool (rangeV x0 x1 x2)))
      | _, _, _ => none
    | _, _ => none
  heap := fun _ _ _ => none
def wholev_lv : LV := ⟨([]), []⟩
noncomputable def wholev_T (n : Int) : Tree :=
  .call 106 [.c (.int .i64 n), .c (.int .i64 (-2147483648)), .c (.int .i64 2147483647)] false (.c (.bool (rangeV n (-2147483648) 2147483647))) <|
  .ite ((!(rangeV n (-2147483648) 2147483647)))
  (.call 74 [.c (.int .i64 1)] false (.tup [.agg [.int .i64 (((0 : Int), (0 : Int)) : EVal).1, .int .i64 (((0 : Int), (0 : Int)) : EVal).2], .c (.int .i64 1)]) <|
   .ret (.tup [.agg [.int .i64 (((0 : Int), (0 : Int)) : EVal).1, .int .i64 (((0 : Int), (0 : Int)) : EVal).2], .c (.int .i64 1)]) [.cells 44 [.int .i64 (((0 : Int), (0 : Int)) : EVal).1, .int .i64 (((0 : Int), (0 : Int)) : EVal).2]])
  (.ret (.tup [.agg [.int .i64 2, .int .i64 n], .c (.int .i64 (-1))]) [.cells 44 [.int .i64 2, .int .i64 n]])
theorem wholev_T_ok (n : Int) : aRun Tryd.prog oc_wholev Tryd.f71 wholev_lv 3000 [.code (bodyOf Tryd.f71)] ([.c (.int .i64 n)] ++ List.replicate (Func.ntmps Tryd.f71 - 1) .junk) [] = wholev_T n := by kernel_rfl
theorem wholev_fun (n : Int) : AFun Tryd.prog 71 [.c (.int .i64 n)] (.tup [.agg (Ty.enc tVal ((wholeV n).1)), .c (.int .i64 ((wholeV n).2))]) :=
  AFun.of oc_wholev wholev_lv 3000 Tryd.func71 mixed rfl (by decide) (Nat.le_of_ble_eq_true rfl) _ (wholev_T_ok n) fun hF => by
    unfold wholev_T
    refine g_call (owithin_fun n (-2147483648) 2147483647) (fun h => nomatch h) ?_
    refine g_iteN (fun h0 => ?_) (fun h0 => ?_)
    · refine g_call (failv_fun 1) (fun h => nomatch h) ?_
      exact g_rt rfl rfl (by rw [wholeV, if_neg (by rw [h0]; decide)]; exact leAV.refl _)
    · exact g_rt rfl rfl (by rw [wholeV, if_pos h0]; exact leAV.refl _)

def truthyV (v : EVal) : Bool := !decide ((takenV v).1 = 0) && !decide (takenV v = (1, 0))
noncomputable def oc_truthy : Orc where
  pure := fun f args => match f, args with
    | 68, [a0] => match dA tVal a0 with
      | some x0 => some (.agg (Ty.enc tVal (takenV x0)))
      | _ => none
    | 69, [a0] => match dA .bool a0 with
      | some x0 => some (.agg (Ty.enc tVal (truthV x0)))
      | _ => none
    | _, _ => none
  heap := fun _ _ _ => none
def truthy_lv : LV := ⟨([]), []⟩
noncomputable def truthy_T (v : EVal) : Tree :=
  .call 68 [.agg (Ty.enc tVal v)] false (.agg [.int .i64 (takenV v).1, .int .i64 (takenV v).2]) <|
  .ite ((!(decide ((takenV v).1 = 0))))
  (.call 69 [.c (.lit false)] false (.agg [.int .i64 (truthV false).1, .int .i64 (truthV false).2]) <|
   .ret (.c (.bool (!(decide ((takenV v).1 = (truthV false).1) && (decide ((takenV v).2 = (truthV false).2) && true))))) [.cells 44 [.int .i64 (takenV v).1, .int .i64 (takenV v).2]])
  (.ret (.c (.lit false)) [.cells 44 [.int .i64 (takenV v).1, .int .i64 (takenV v).2]])
theorem truthy_T_ok (v : EVal) : aRun Tryd.prog oc_truthy Tryd.f70 truthy_lv 3000 [.code (bodyOf Tryd.f70)] ([.agg (tVal.enc v)] ++ List.replicate (Func.ntmps Tryd.f70 - 1) .junk) [] = truthy_T v := by kernel_rfl
theorem truthy_fun (v : EVal) : AFun Tryd.prog 70 [.agg (tVal.enc v)] (.c (.bool (truthyV v))) :=
  AFun.of oc_truthy truthy_lv 3000 Tryd.func70 mixed rfl (by decide) (Nat.le_of_ble_eq_true rfl) _ (truthy_T_ok v) fun hF => by
    unfold truthy_T
    refine g_call (otaken_fun v) (fun h => nomatch h) ?_
    refine g_iteND (fun h0 => ?_) (fun h0 => ?_)
    · refine g_callA (truthv_fun false) (by simp [leAVs, leAV, leA1, leCs, leC, Ty.enc]) (fun h => nomatch h) ?_
      exact g_retb (by simp_all [truthyV, truthV, Prod.ext_iff])
    · exact g_retl (by simp_all [truthyV, truthV, Prod.ext_iff])

def ordI (o a b : Int) : EVal × Int := if o = 9 then (truthV (decide (a < b)), -1) else if o = 10 then (truthV (decide (a ≤ b)), -1) else ((0, 0), 0)
noncomputable def oc_ordI : Orc where
  pure := fun f args => match f, args with
    | 69, [a0] => match dA .bool a0 with
      | some x0 => some (.agg (Ty.enc tVal (truthV x0)))
      | _ => none
    | 74, [a0] => match dA tI a0 with
      | some x0 => some (.tup [.agg (Ty.enc tVal ((((0 : Int), (0 : Int)) : EVal))), .c (.int .i64 (x0))])
      | _ => none
    | _, _ => none
  heap := fun _ _ _ => none
def ordI_lv : LV := ⟨([]), []⟩
noncomputable def ordI_T (o : Int) (a : Int) (b : Int) : Tree :=
  .ite (decide (o = 9))
  (.call 69 [.c (.bool (decide (a < b)))] false (.agg [.int .i64 (truthV (decide (a < b))).1, .int .i64 (truthV (decide (a < b))).2]) <|
   .ret (.tup [.agg [.int .i64 (truthV (decide (a < b))).1, .int .i64 (truthV (decide (a < b))).2], .c (.int .i64 (-1))]) [.cells 44 [.int .i64 (truthV (decide (a < b))).1, .int .i64 (truthV (decide (a < b))).2]])
  (.ite (decide (o = 10))
   (.call 69 [.c (.bool (decide (a ≤ b)))] false (.agg [.int .i64 (truthV (decide (a ≤ b))).1, .int .i64 (truthV (decide (a ≤ b))).2]) <|
    .ret (.tup [.agg [.int .i64 (truthV (decide (a ≤ b))).1, .int .i64 (truthV (decide (a ≤ b))).2], .c (.int .i64 (-1))]) [.cells 44 [.int .i64 (truthV (decide (a ≤ b))).1, .int .i64 (truthV (decide (a ≤ b))).2]])
   (.call 74 [.c (.int .i64 0)] false (.tup [.agg [.int .i64 (((0 : Int), (0 : Int)) : EVal).1, .int .i64 (((0 : Int), (0 : Int)) : EVal).2], .c (.int .i64 0)]) <|
    .ret (.tup [.agg [.int .i64 (((0 : Int), (0 : Int)) : EVal).1, .int .i64 (((0 : Int), (0 : Int)) : EVal).2], .c (.int .i64 0)]) [.cells 44 [.int .i64 (((0 : Int), (0 : Int)) : EVal).1, .int .i64 (((0 : Int), (0 : Int)) : EVal).2]]))
theorem ordI_T_ok (o : Int) (a : Int) (b : Int) : aRun Tryd.prog oc_ordI Tryd.f110 ordI_lv 3000 [.code (bodyOf Tryd.f110)] ([.c (.int .i64 o), .c (.int .i64 a), .c (.int .i64 b)] ++ List.replicate (Func.ntmps Tryd.f110 - 3) .junk) [] = ordI_T o a b := by kernel_rfl
theorem ordI_fun (o : Int) (a : Int) (b : Int) : AFun Tryd.prog 110 [.c (.int .i64 o), .c (.int .i64 a), .c (.int .i64 b)] (.tup [.agg (Ty.enc tVal ((ordI o a b).1)), .c (.int .i64 ((ordI o a b).2))]) :=
  AFun.of oc_ordI ordI_lv 3000 Tryd.func110 mixed rfl (by decide) (Nat.le_of_ble_eq_true rfl) _ (ordI_T_ok o a b) fun hF => by
    unfold ordI_T
    refine g_iteD (fun h0 => ?_) (fun h0 => ?_)
    · refine g_call (truthv_fun (decide (a < b))) (fun h => nomatch h) ?_
      exact g_rt rfl rfl (by rw [ordI, if_pos h0]; exact leAV.refl _)
    · refine g_iteD (fun h1 => ?_) (fun h1 => ?_)
      · refine g_call (truthv_fun (decide (a ≤ b))) (fun h => nomatch h) ?_
        exact g_rt rfl rfl (by rw [ordI, if_neg h0, if_pos h1]; exact leAV.refl _)
      · refine g_call (failv_fun 0) (fun h => nomatch h) ?_
        exact g_rt rfl rfl (by rw [ordI, if_neg h0, if_neg h1]; exact leAV.refl _)

def ordF (o : Int) (a b : Nat) : EVal × Int := if o = 9 then (truthV (fOrd a b == some Ordering.lt), -1) else if o = 10 then (truthV (fOrd a b == some Ordering.lt || fOrd a b == some Ordering.eq), -1) else ((0, 0), 0)
noncomputable def oc_ordF : Orc where
  pure := fun f args => match f, args with
    | 69, [a0] => match dA .bool a0 with
      | some x0 => some (.agg (Ty.enc tVal (truthV x0)))
      | _ => none
    | 74, [a0] => match dA tI a0 with
      | some x0 => some (.tup [.agg (Ty.enc tVal ((((0 : Int), (0 : Int)) : EVal))), .c (.int .i64 (x0))])
      | _ => none
    | _, _ => none
  heap := fun _ _ _ => none
def ordF_lv : LV := ⟨([]), []⟩
noncomputable def ordF_T (o : Int) (a : Nat) (b : Nat) : Tree :=
  .ite (decide (o = 9))
  (.call 69 [.c (.bool (fOrd a b == some Ordering.lt))] false (.agg [.int .i64 (truthV (fOrd a b == some Ordering.lt)).1, .int .i64 (truthV (fOrd a b == some Ordering.lt)).2]) <|
   .ret (.tup [.agg [.int .i64 (truthV (fOrd a b == some Ordering.lt)).1, .int .i64 (truthV (fOrd a b == some Ordering.lt)).2], .c (.int .i64 (-1))]) [.cells 44 [.int .i64 (truthV (fOrd a b == some Ordering.lt)).1, .int .i64 (truthV (fOrd a b == some Ordering.lt)).2]])
  (.ite (decide (o = 10))
   (.call 69 [.c (.bool (fOrd a b == some Ordering.lt || fOrd a b == some Ordering.eq))] false (.agg [.int .i64 (truthV (fOrd a b == some Ordering.lt || fOrd a b == some Ordering.eq)).1, .int .i64 (truthV (fOrd a b == some Ordering.lt || fOrd a b == some Ordering.eq)).2]) <|
    .ret (.tup [.agg [.int .i64 (truthV (fOrd a b == some Ordering.lt || fOrd a b == some Ordering.eq)).1, .int .i64 (truthV (fOrd a b == some Ordering.lt || fOrd a b == some Ordering.eq)).2], .c (.int .i64 (-1))]) [.cells 44 [.int .i64 (truthV (fOrd a b == some Ordering.lt || fOrd a b == some Ordering.eq)).1, .int .i64 (truthV (fOrd a b == some Ordering.lt || fOrd a b == some Ordering.eq)).2]])
   (.call 74 [.c (.int .i64 0)] false (.tup [.agg [.int .i64 (((0 : Int), (0 : Int)) : EVal).1, .int .i64 (((0 : Int), (0 : Int)) : EVal).2], .c (.int .i64 0)]) <|
    .ret (.tup [.agg [.int .i64 (((0 : Int), (0 : Int)) : EVal).1, .int .i64 (((0 : Int), (0 : Int)) : EVal).2], .c (.int .i64 0)]) [.cells 44 [.int .i64 (((0 : Int), (0 : Int)) : EVal).1, .int .i64 (((0 : Int), (0 : Int)) : EVal).2]]))
theorem ordF_T_ok (o : Int) (a : Nat) (b : Nat) : aRun Tryd.prog oc_ordF Tryd.f109 ordF_lv 3000 [.code (bodyOf Tryd.f109)] ([.c (.int .i64 o), .c (.flt a), .c (.flt b)] ++ List.replicate (Func.ntmps Tryd.f109 - 3) .junk) [] = ordF_T o a b := by kernel_rfl
theorem ordF_fun (o : Int) (a : Nat) (b : Nat) : AFun Tryd.prog 109 [.c (.int .i64 o), .c (.flt a), .c (.flt b)] (.tup [.agg (Ty.enc tVal ((ordF o a b).1)), .c (.int .i64 ((ordF o a b).2))]) :=
  AFun.of oc_ordF ordF_lv 3000 Tryd.func109 mixed rfl (by decide) (Nat.le_of_ble_eq_true rfl) _ (ordF_T_ok o a b) fun hF => by
    unfold ordF_T
    refine g_iteD (fun h0 => ?_) (fun h0 => ?_)
    · refine g_call (truthv_fun (fOrd a b == some Ordering.lt)) (fun h => nomatch h) ?_
      exact g_rt rfl rfl (by rw [ordF, if_pos h0]; exact leAV.refl _)
    · refine g_iteD (fun h1 => ?_) (fun h1 => ?_)
      · refine g_call (truthv_fun (fOrd a b == some Ordering.lt || fOrd a b == some Ordering.eq)) (fun h => nomatch h) ?_
        exact g_rt rfl rfl (by rw [ordF, if_neg h0, if_pos h1]; exact leAV.refl _)
      · refine g_call (failv_fun 0) (fun h => nomatch h) ?_
        exact g_rt rfl rfl (by rw [ordF, if_neg h0, if_neg h1]; exact leAV.refl _)

def floatsV (o : Int) (a b : Nat) : EVal × Int := if o = 3 then (ofO .add a b, -1) else if o = 4 then (ofO .sub a b, -1) else if o = 5 then (ofO .mul a b, -1) else if o = 6 then (ofO .quo a b, -1) else if o = 8 then (truthV (fOrd a b == some Ordering.eq), -1) else ordF o a b
noncomputable def oc_floatsV : Orc where
  pure := fun f args => match f, args with
    | 69, [a0] => match dA .bool a0 with
      | some x0 => some (.agg (Ty.enc tVal (truthV x0)))
      | _ => none
    | 72, [.one (.c (.flt x0))] => some (.agg (Ty.enc tVal (ofV x0)))
    | 72, [.one (.c (.flo o0 x0 y0))] => some (.agg (Ty.enc tVal (ofO o0 x0 y0)))
    | 109, [a0, .one (.c (.flt x1)), .one (.c (.flt x2))] => match dA tI a0 with
      | some x0 => some (.tup [.agg (Ty.enc tVal ((ordF x0 x1 x2).1)), .c (.int .i64 ((ordF x0 x1 x2).2))])
      | _ => none
    | _, _ => none
  heap := fun _ _ _ => none
def floatsV_lv : LV := ⟨([]), []⟩
noncomputable def floatsV_T (o : Int) (a : Nat) (b : Nat) : Tree :=
  .ite (decide (o = 3))
  (.call 72 [.c (.flo .add a b)] false (.agg [.int .i64 (ofO .add a b).1, .int .i64 (ofO .add a b).2]) <|
   .ret (.tup [.agg [.int .i64 (ofO .add a b).1, .int .i64 (ofO .add a b).2], .c (.int .i64 (-1))]) [.cells 44 [.int .i64 (ofO .add a b).1, .int .i64 (ofO .add a b).2]])
  (.ite (decide (o = 4))
   (.call 72 [.c (.flo .sub a b)] false (.agg [.int .i64 (ofO .sub a b).1, .int .i64 (ofO .sub a b).2]) <|
    .ret (.tup [.agg [.int .i64 (ofO .sub a b).1, .int .i64 (ofO .sub a b).2], .c (.int .i64 (-1))]) [.cells 44 [.int .i64 (ofO .sub a b).1, .int .i64 (ofO .sub a b).2]])
   (.ite (decide (o = 5))
    (.call 72 [.c (.flo .mul a b)] false (.agg [.int .i64 (ofO .mul a b).1, .int .i64 (ofO .mul a b).2]) <|
     .ret (.tup [.agg [.int .i64 (ofO .mul a b).1, .int .i64 (ofO .mul a b).2], .c (.int .i64 (-1))]) [.cells 44 [.int .i64 (ofO .mul a b).1, .int .i64 (ofO .mul a b).2]])
    (.ite (decide (o = 6))
     (.call 72 [.c (.flo .quo a b)] false (.agg [.int .i64 (ofO .quo a b).1, .int .i64 (ofO .quo a b).2]) <|
      .ret (.tup [.agg [.int .i64 (ofO .quo a b).1, .int .i64 (ofO .quo a b).2], .c (.int .i64 (-1))]) [.cells 44 [.int .i64 (ofO .quo a b).1, .int .i64 (ofO .quo a b).2]])
     (.ite (decide (o = 8))
      (.call 69 [.c (.bool (fOrd a b == some Ordering.eq))] false (.agg [.int .i64 (truthV (fOrd a b == some Ordering.eq)).1, .int .i64 (truthV (fOrd a b == some Ordering.eq)).2]) <|
       .ret (.tup [.agg [.int .i64 (truthV (fOrd a b == some Ordering.eq)).1, .int .i64 (truthV (fOrd a b == some Ordering.eq)).2], .c (.int .i64 (-1))]) [.cells 44 [.int .i64 (truthV (fOrd a b == some Ordering.eq)).1, .int .i64 (truthV (fOrd a b == some Ordering.eq)).2]])
      (.call 109 [.c (.int .i64 o), .c (.flt a), .c (.flt b)] false (.tup [.agg [.int .i64 (ordF o a b).1.1, .int .i64 (ordF o a b).1.2], .c (.int .i64 (ordF o a b).2)]) <|
       .ret (.tup [.agg [.int .i64 (ordF o a b).1.1, .int .i64 (ordF o a b).1.2], .c (.int .i64 (ordF o a b).2)]) [.cells 44 [.int .i64 (ordF o a b).1.1, .int .i64 (ordF o a b).1.2]])))))
theorem floatsV_T_ok (o : Int) (a : Nat) (b : Nat) : aRun Tryd.prog oc_floatsV Tryd.f75 floatsV_lv 3000 [.code (bodyOf Tryd.f75)] ([.c (.int .i64 o), .c (.flt a), .c (.flt b)] ++ List.replicate (Func.ntmps Tryd.f75 - 3) .junk) [] = floatsV_T o a b := by kernel_rfl
theorem floatsV_fun (o : Int) (a : Nat) (b : Nat) : AFun Tryd.prog 75 [.c (.int .i64 o), .c (.flt a), .c (.flt b)] (.tup [.agg (Ty.enc tVal ((floatsV o a b).1)), .c (.int .i64 ((floatsV o a b).2))]) :=
  AFun.of oc_floatsV floatsV_lv 3000 Tryd.func75 mixed rfl (by decide) (Nat.le_of_ble_eq_true rfl) _ (floatsV_T_ok o a b) fun hF => by
    unfold floatsV_T
    refine g_iteD (fun h0 => ?_) (fun h0 => ?_)
    · refine g_call (ofo_fun .add a b) (fun h => nomatch h) ?_
      exact g_rt rfl rfl (by rw [floatsV, if_pos h0]; exact leAV.refl _)
    · refine g_iteD (fun h1 => ?_) (fun h1 => ?_)
      · refine g_call (ofo_fun .sub a b) (fun h => nomatch h) ?_
        exact g_rt rfl rfl (by rw [floatsV, if_neg h0, if_pos h1]; exact leAV.refl _)
      · refine g_iteD (fun h2 => ?_) (fun h2 => ?_)
        · refine g_call (ofo_fun .mul a b) (fun h => nomatch h) ?_
          exact g_rt rfl rfl (by rw [floatsV, if_neg h0, if_neg h1, if_pos h2]; exact leAV.refl _)
        · refine g_iteD (fun h3 => ?_) (fun h3 => ?_)
          · refine g_call (ofo_fun .quo a b) (fun h => nomatch h) ?_
            exact g_rt rfl rfl (by rw [floatsV, if_neg h0, if_neg h1, if_neg h2, if_pos h3]; exact leAV.refl _)
          · refine g_iteD (fun h4 => ?_) (fun h4 => ?_)
            · refine g_call (truthv_fun (fOrd a b == some Ordering.eq)) (fun h => nomatch h) ?_
              exact g_rt rfl rfl (by rw [floatsV, if_neg h0, if_neg h1, if_neg h2, if_neg h3, if_pos h4]; exact leAV.refl _)
            · refine g_call (ordF_fun o a b) (fun h => nomatch h) ?_
              exact g_rt rfl rfl (by rw [floatsV, if_neg h0, if_neg h1, if_neg h2, if_neg h3, if_neg h4]; exact leAV.refl _)

theorem mul_small {a b : Int} (ha : -2147483648 ≤ a ∧ a ≤ 2147483647) (hb : -2147483648 ≤ b ∧ b ≤ 2147483647) : -9223372036854775808 ≤ a * b ∧ a * b ≤ 9223372036854775807 := by
  have h := Int.natAbs_mul a b
  have h1 : a.natAbs ≤ 2147483648 := by omega
  have h2 : b.natAbs ≤ 2147483648 := by omega
  have h3 := Nat.mul_le_mul h1 h2
  omega
theorem tdiv_small {a b : Int} (ha : -2147483648 ≤ a ∧ a ≤ 2147483647) : -9223372036854775808 ≤ a.tdiv b ∧ a.tdiv b ≤ 9223372036854775807 := by
  have h := Int.natAbs_tdiv_le_natAbs a b
  omega
theorem tmod_small {a b : Int} (ha : -2147483648 ≤ a ∧ a ≤ 2147483647) : -9223372036854775808 ≤ a.tmod b ∧ a.tmod b ≤ 9223372036854775807 := by
  have h : (a.tmod b).natAbs ≤ a.natAbs := by rw [Int.natAbs_tmod]; exact Nat.mod_le _ _
  omega
def wholesV (o a b : Int) : EVal × Int := if o = 3 then wholeV (a + b) else if o = 4 then wholeV (a - b) else if o = 5 then wholeV (a * b) else if o = 6 then (if b = 0 then ((0, 0), 2) else wholeV (a.tdiv b)) else if o = 7 then (if b = 0 then ((0, 0), 2) else wholeV (a.tmod b)) else ordI o a b
noncomputable def oc_wholesV : Orc where
  pure := fun f args => match f, args with
    | 71, [a0] => match dA tI a0 with
      | some x0 => some (.tup [.agg (Ty.enc tVal ((wholeV x0).1)), .c (.int .i64 ((wholeV x0).2))])
      | _ => none
    | 74, [a0] => match dA tI a0 with
      | some x0 => some (.tup [.agg (Ty.enc tVal ((((0 : Int), (0 : Int)) : EVal))), .c (.int .i64 (x0))])
      | _ => none
    | 110, [a0, a1, a2] => match dA tI a0, dA tI a1, dA tI a2 with
      | some x0, some x1, some x2 => some (.tup [.agg (Ty.enc tVal ((ordI x0 x1 x2).1)), .c (.int .i64 ((ordI x0 x1 x2).2))])
      | _, _, _ => none
    | _, _ => none
  heap := fun _ _ _ => none
def wholesV_lv : LV := ⟨([]), []⟩
noncomputable def wholesV_T (o : Int) (a : Int) (b : Int) : Tree :=
  .ite (decide (o = 3))
  (.need (inR .i64 (a + b)) <|
   .call 71 [.c (.int .i64 (a + b))] false (.tup [.agg [.int .i64 (wholeV (a + b)).1.1, .int .i64 (wholeV (a + b)).1.2], .c (.int .i64 (wholeV (a + b)).2)]) <|
   .ret (.tup [.agg [.int .i64 (wholeV (a + b)).1.1, .int .i64 (wholeV (a + b)).1.2], .c (.int .i64 (wholeV (a + b)).2)]) [.cells 44 [.int .i64 (wholeV (a + b)).1.1, .int .i64 (wholeV (a + b)).1.2]])
  (.ite (decide (o = 4))
   (.need (inR .i64 (a - b)) <|
    .call 71 [.c (.int .i64 (a - b))] false (.tup [.agg [.int .i64 (wholeV (a - b)).1.1, .int .i64 (wholeV (a - b)).1.2], .c (.int .i64 (wholeV (a - b)).2)]) <|
    .ret (.tup [.agg [.int .i64 (wholeV (a - b)).1.1, .int .i64 (wholeV (a - b)).1.2], .c (.int .i64 (wholeV (a - b)).2)]) [.cells 44 [.int .i64 (wholeV (a - b)).1.1, .int .i64 (wholeV (a - b)).1.2]])
   (.ite (decide (o = 5))
    (.need (inR .i64 (a * b)) <|
     .call 71 [.c (.int .i64 (a * b))] false (.tup [.agg [.int .i64 (wholeV (a * b)).1.1, .int .i64 (wholeV (a * b)).1.2], .c (.int .i64 (wholeV (a * b)).2)]) <|
     .ret (.tup [.agg [.int .i64 (wholeV (a * b)).1.1, .int .i64 (wholeV (a * b)).1.2], .c (.int .i64 (wholeV (a * b)).2)]) [.cells 44 [.int .i64 (wholeV (a * b)).1.1, .int .i64 (wholeV (a * b)).1.2]])
    (.ite (decide (o = 6))
     (.ite (decide (o = 6))
      (.ite (decide (b = 0))
       (.call 74 [.c (.int .i64 2)] false (.tup [.agg [.int .i64 (((0 : Int), (0 : Int)) : EVal).1, .int .i64 (((0 : Int), (0 : Int)) : EVal).2], .c (.int .i64 2)]) <|
        .ret (.tup [.agg [.int .i64 (((0 : Int), (0 : Int)) : EVal).1, .int .i64 (((0 : Int), (0 : Int)) : EVal).2], .c (.int .i64 2)]) [.cells 44 [.int .i64 (((0 : Int), (0 : Int)) : EVal).1, .int .i64 (((0 : Int), (0 : Int)) : EVal).2]])
       (.ite (decide (o = 6))
        (.need (b ≠ 0) <|
         .need (inR .i64 (Int.tdiv a b)) <|
         .call 71 [.c (.int .i64 (Int.tdiv a b))] false (.tup [.agg [.int .i64 (wholeV (Int.tdiv a b)).1.1, .int .i64 (wholeV (Int.tdiv a b)).1.2], .c (.int .i64 (wholeV (Int.tdiv a b)).2)]) <|
         .ret (.tup [.agg [.int .i64 (wholeV (Int.tdiv a b)).1.1, .int .i64 (wholeV (Int.tdiv a b)).1.2], .c (.int .i64 (wholeV (Int.tdiv a b)).2)]) [.cells 44 [.int .i64 (wholeV (Int.tdiv a b)).1.1, .int .i64 (wholeV (Int.tdiv a b)).1.2]])
        (.need (b ≠ 0) <|
         .need (inR .i64 (Int.tmod a b)) <|
         .call 71 [.c (.int .i64 (Int.tmod a b))] false (.tup [.agg [.int .i64 (wholeV (Int.tmod a b)).1.1, .int .i64 (wholeV (Int.tmod a b)).1.2], .c (.int .i64 (wholeV (Int.tmod a b)).2)]) <|
         .ret (.tup [.agg [.int .i64 (wholeV (Int.tmod a b)).1.1, .int .i64 (wholeV (Int.tmod a b)).1.2], .c (.int .i64 (wholeV (Int.tmod a b)).2)]) [.cells 44 [.int .i64 (wholeV (Int.tmod a b)).1.1, .int .i64 (wholeV (Int.tmod a b)).1.2]])))
      (.call 110 [.c (.int .i64 o), .c (.int .i64 a), .c (.int .i64 b)] false (.tup [.agg [.int .i64 (ordI o a b).1.1, .int .i64 (ordI o a b).1.2], .c (.int .i64 (ordI o a b).2)]) <|
       .ret (.tup [.agg [.int .i64 (ordI o a b).1.1, .int .i64 (ordI o a b).1.2], .c (.int .i64 (ordI o a b).2)]) [.cells 44 [.int .i64 (ordI o a b).1.1, .int .i64 (ordI o a b).1.2]]))
     (.ite (decide (o = 7))
      (.ite (decide (b = 0))
       (.call 74 [.c (.int .i64 2)] false (.tup [.agg [.int .i64 (((0 : Int), (0 : Int)) : EVal).1, .int .i64 (((0 : Int), (0 : Int)) : EVal).2], .c (.int .i64 2)]) <|
        .ret (.tup [.agg [.int .i64 (((0 : Int), (0 : Int)) : EVal).1, .int .i64 (((0 : Int), (0 : Int)) : EVal).2], .c (.int .i64 2)]) [.cells 44 [.int .i64 (((0 : Int), (0 : Int)) : EVal).1, .int .i64 (((0 : Int), (0 : Int)) : EVal).2]])
       (.ite (decide (o = 6))
        (.need (b ≠ 0) <|
         .need (inR .i64 (Int.tdiv a b)) <|
         .call 71 [.c (.int .i64 (Int.tdiv a b))] false (.tup [.agg [.int .i64 (wholeV (Int.tdiv a b)).1.1, .int .i64 (wholeV (Int.tdiv a b)).1.2], .c (.int .i64 (wholeV (Int.tdiv a b)).2)]) <|
         .ret (.tup [.agg [.int .i64 (wholeV (Int.tdiv a b)).1.1, .int .i64 (wholeV (Int.tdiv a b)).1.2], .c (.int .i64 (wholeV (Int.tdiv a b)).2)]) [.cells 44 [.int .i64 (wholeV (Int.tdiv a b)).1.1, .int .i64 (wholeV (Int.tdiv a b)).1.2]])
        (.need (b ≠ 0) <|
         .need (inR .i64 (Int.tmod a b)) <|
         .call 71 [.c (.int .i64 (Int.tmod a b))] false (.tup [.agg [.int .i64 (wholeV (Int.tmod a b)).1.1, .int .i64 (wholeV (Int.tmod a b)).1.2], .c (.int .i64 (wholeV (Int.tmod a b)).2)]) <|
         .ret (.tup [.agg [.int .i64 (wholeV (Int.tmod a b)).1.1, .int .i64 (wholeV (Int.tmod a b)).1.2], .c (.int .i64 (wholeV (Int.tmod a b)).2)]) [.cells 44 [.int .i64 (wholeV (Int.tmod a b)).1.1, .int .i64 (wholeV (Int.tmod a b)).1.2]])))
      (.call 110 [.c (.int .i64 o), .c (.int .i64 a), .c (.int .i64 b)] false (.tup [.agg [.int .i64 (ordI o a b).1.1, .int .i64 (ordI o a b).1.2], .c (.int .i64 (ordI o a b).2)]) <|
       .ret (.tup [.agg [.int .i64 (ordI o a b).1.1, .int .i64 (ordI o a b).1.2], .c (.int .i64 (ordI o a b).2)]) [.cells 44 [.int .i64 (ordI o a b).1.1, .int .i64 (ordI o a b).1.2]])))))
theorem wholesV_T_ok (o : Int) (a : Int) (b : Int) : aRun Tryd.prog oc_wholesV Tryd.f76 wholesV_lv 3000 [.code (bodyOf Tryd.f76)] ([.c (.int .i64 o), .c (.int .i64 a), .c (.int .i64 b)] ++ List.replicate (Func.ntmps Tryd.f76 - 3) .junk) [] = wholesV_T o a b := by kernel_rfl
theorem wholesV_fun (o : Int) (a : Int) (b : Int) (ha : -2147483648 ≤ a ∧ a ≤ 2147483647) (hb : -2147483648 ≤ b ∧ b ≤ 2147483647) : AFun Tryd.prog 76 [.c (.int .i64 o), .c (.int .i64 a), .c (.int .i64 b)] (.tup [.agg (Ty.enc tVal ((wholesV o a b).1)), .c (.int .i64 ((wholesV o a b).2))]) :=
  AFun.of oc_wholesV wholesV_lv 3000 Tryd.func76 mixed rfl (by decide) (Nat.le_of_ble_eq_true rfl) _ (wholesV_T_ok o a b) fun hF => by
    unfold wholesV_T
    refine g_iteD (fun h0 => ?_) (fun h0 => ?_)
    · refine g_need (by rw [i64_iff]; omega) ?_
      refine g_call (wholev_fun (a + b)) (fun h => nomatch h) ?_
      exact g_rt rfl rfl (by simp only [wholesV, h0, reduceIte, Int.reduceEq, and_true, true_and, and_false, false_and]; exact leAV.refl _)
    · refine g_iteD (fun h1 => ?_) (fun h1 => ?_)
      · refine g_need (by rw [i64_iff]; omega) ?_
        refine g_call (wholev_fun (a - b)) (fun h => nomatch h) ?_
        exact g_rt rfl rfl (by simp only [wholesV, h0, h1, reduceIte, Int.reduceEq, and_true, true_and, and_false, false_and]; exact leAV.refl _)
      · refine g_iteD (fun h2 => ?_) (fun h2 => ?_)
        · refine g_need (by rw [i64_iff]; first | exact mul_small ha hb | exact tdiv_small ha | exact tmod_small ha) ?_
          refine g_call (wholev_fun (a * b)) (fun h => nomatch h) ?_
          exact g_rt rfl rfl (by simp only [wholesV, h0, h1, h2, reduceIte, Int.reduceEq, and_true, true_and, and_false, false_and]; exact leAV.refl _)
        · refine g_iteD (fun h3 => ?_) (fun h3 => ?_)
          · refine g_iteD (fun h4 => ?_) (fun h4 => ?_)
            · refine g_iteD (fun h5 => ?_) (fun h5 => ?_)
              · refine g_call (failv_fun 2) (fun h => nomatch h) ?_
                exact g_rt rfl rfl (by simp only [wholesV, h0, h1, h2, h3, h4, h5, reduceIte, Int.reduceEq, and_true, true_and, and_false, false_and]; exact leAV.refl _)
              · refine g_iteD (fun h6 => ?_) (fun h6 => ?_)
                · refine g_need (by omega) ?_
                  refine g_need (by rw [i64_iff]; first | exact mul_small ha hb | exact tdiv_small ha | exact tmod_small ha) ?_
                  refine g_call (wholev_fun (Int.tdiv a b)) (fun h => nomatch h) ?_
                  exact g_rt rfl rfl (by simp only [wholesV, h0, h1, h2, h3, h4, h5, h6, reduceIte, Int.reduceEq, and_true, true_and, and_false, false_and]; exact leAV.refl _)
                · refine g_need (by omega) ?_
                  refine g_need (by omega) ?_
                  refine g_call (wholev_fun (Int.tmod a b)) (fun h => nomatch h) ?_
                  exact g_rt rfl rfl (by exfalso; omega)
            · refine g_call (ordI_fun o a b) (fun h => nomatch h) ?_
              exact g_rt rfl rfl (by exfalso; omega)
          · refine g_iteD (fun h4 => ?_) (fun h4 => ?_)
            · refine g_iteD (fun h5 => ?_) (fun h5 => ?_)
              · refine g_call (failv_fun 2) (fun h => nomatch h) ?_
                exact g_rt rfl rfl (by simp only [wholesV, h0, h1, h2, h3, h4, h5, reduceIte, Int.reduceEq, and_true, true_and, and_false, false_and]; exact leAV.refl _)
              · refine g_iteD (fun h6 => ?_) (fun h6 => ?_)
                · refine g_need (by omega) ?_
                  refine g_need (by omega) ?_
                  refine g_call (wholev_fun (Int.tdiv a b)) (fun h => nomatch h) ?_
                  exact g_rt rfl rfl (by exfalso; omega)
                · refine g_need (by omega) ?_
                  refine g_need (by rw [i64_iff]; first | exact mul_small ha hb | exact tdiv_small ha | exact tmod_small ha) ?_
                  refine g_call (wholev_fun (Int.tmod a b)) (fun h => nomatch h) ?_
                  exact g_rt rfl rfl (by simp only [wholesV, h0, h1, h2, h3, h4, h5, h6, reduceIte, Int.reduceEq, and_true, true_and, and_false, false_and]; exact leAV.refl _)
            · refine g_call (ordI_fun o a b) (fun h => nomatch h) ?_
              exact g_rt rfl rfl (by simp only [wholesV, h0, h1, h2, h3, h4, reduceIte, Int.reduceEq, and_true, true_and, and_false, false_and]; exact leAV.refl _)

theorem taken_in {v : EVal} (h : (takenV v).1 = 2) : -2147483648 ≤ (takenV v).2 ∧ (takenV v).2 ≤ 2147483647 := by
  unfold takenV at h ⊢
  split at h
  · rename_i hr
    rw [if_pos hr]
    unfold rightVF rangeV at hr
    simp_all
  · exact absurd h (by decide)
theorem neg_lt (v : EVal) : Op.negFloat .f64 (fltV v) < 18446744073709551616 := by
  have h : fltV v < 2 ^ 64 := by
    have := wrap_within .u64 v.2
    unfold fltV
    simp [inR, IntKind.min, IntKind.max, IntKind.signed, IntKind.bits] at this
    omega
  exact Nat.xor_lt_two_pow h (show 2 ^ 63 < 2 ^ 64 by decide)
def unaryV (o : Int) (v : EVal) : EVal × Int := if o = 11 then (truthV (!truthyV (takenV v)), -1) else if o = 12 ∧ (takenV v).1 = 2 then wholeV (0 - (takenV v).2) else if o = 12 ∧ (takenV v).1 = 3 then (ofV (Op.negFloat .f64 (fltV (takenV v))), -1) else ((0, 0), 0)
noncomputable def oc_unaryV : Orc where
  pure := fun f args => match f, args with
    | 68, [a0] => match dA tVal a0 with
      | some x0 => some (.agg (Ty.enc tVal (takenV x0)))
      | _ => none
    | 69, [a0] => match dA .bool a0 with
      | some x0 => some (.agg (Ty.enc tVal (truthV x0)))
      | _ => none
    | 70, [a0] => match dA tVal a0 with
      | some x0 => some (.c (.bool (truthyV x0)))
      | _ => none
    | 71, [a0] => match dA tI a0 with
      | some x0 => some (.tup [.agg (Ty.enc tVal ((wholeV x0).1)), .c (.int .i64 ((wholeV x0).2))])
      | _ => none
    | 72, [.one (.c (.flt x0))] => some (.agg (Ty.enc tVal (ofV x0)))
    | 72, [.one (.c (.flo o0 x0 y0))] => some (.agg (Ty.enc tVal (ofO o0 x0 y0)))
    | 73, [a0] => match dA tVal a0 with
      | some x0 => some (.c (.flt (fltV x0)))
      | _ => none
    | 74, [a0] => match dA tI a0 with
      | some x0 => some (.tup [.agg (Ty.enc tVal ((((0 : Int), (0 : Int)) : EVal))), .c (.int .i64 (x0))])
      | _ => none
    | _, _ => none
  heap := fun _ _ _ => none
def unaryV_lv : LV := ⟨([]), []⟩
noncomputable def unaryV_T (o : Int) (v : EVal) : Tree :=
  .call 68 [.agg (Ty.enc tVal v)] false (.agg [.int .i64 (takenV v).1, .int .i64 (takenV v).2]) <|
  .ite (decide (o = 11))
  (.call 70 [.agg [.int .i64 (takenV v).1, .int .i64 (takenV v).2]] false (.c (.bool (truthyV (takenV v)))) <|
   .call 69 [.c (.bool (!(truthyV (takenV v))))] false (.agg [.int .i64 (truthV (!(truthyV (takenV v)))).1, .int .i64 (truthV (!(truthyV (takenV v)))).2]) <|
   .ret (.tup [.agg [.int .i64 (truthV (!(truthyV (takenV v)))).1, .int .i64 (truthV (!(truthyV (takenV v)))).2], .c (.int .i64 (-1))]) [.cells 44 [.int .i64 (takenV v).1, .int .i64 (takenV v).2], .cells 44 [.int .i64 (truthV (!(truthyV (takenV v)))).1, .int .i64 (truthV (!(truthyV (takenV v)))).2]])
  (.ite (decide (o = 12))
   (.ite (decide ((takenV v).1 = 2))
    (.need (inR .i64 (0 - (takenV v).2)) <|
     .call 71 [.c (.int .i64 (0 - (takenV v).2))] false (.tup [.agg [.int .i64 (wholeV (0 - (takenV v).2)).1.1, .int .i64 (wholeV (0 - (takenV v).2)).1.2], .c (.int .i64 (wholeV (0 - (takenV v).2)).2)]) <|
     .ret (.tup [.agg [.int .i64 (wholeV (0 - (takenV v).2)).1.1, .int .i64 (wholeV (0 - (takenV v).2)).1.2], .c (.int .i64 (wholeV (0 - (takenV v).2)).2)]) [.cells 44 [.int .i64 (takenV v).1, .int .i64 (takenV v).2], .cells 44 [.int .i64 (wholeV (0 - (takenV v).2)).1.1, .int .i64 (wholeV (0 - (takenV v).2)).1.2]])
    (.ite (decide (o = 12))
     (.ite (decide ((takenV v).1 = 3))
      (.call 73 [.agg [.int .i64 (takenV v).1, .int .i64 (takenV v).2]] false (.c (.flt (fltV (takenV v)))) <|
       .call 72 [.c (.flt (Op.negFloat .f64 (fltV (takenV v))))] false (.agg [.int .i64 (ofV (Op.negFloat .f64 (fltV (takenV v)))).1, .int .i64 (ofV (Op.negFloat .f64 (fltV (takenV v)))).2]) <|
       .ret (.tup [.agg [.int .i64 (ofV (Op.negFloat .f64 (fltV (takenV v)))).1, .int .i64 (ofV (Op.negFloat .f64 (fltV (takenV v)))).2], .c (.int .i64 (-1))]) [.cells 44 [.int .i64 (takenV v).1, .int .i64 (takenV v).2], .cells 44 [.int .i64 (ofV (Op.negFloat .f64 (fltV (takenV v)))).1, .int .i64 (ofV (Op.negFloat .f64 (fltV (takenV v)))).2]])
      (.call 74 [.c (.int .i64 0)] false (.tup [.agg [.int .i64 (((0 : Int), (0 : Int)) : EVal).1, .int .i64 (((0 : Int), (0 : Int)) : EVal).2], .c (.int .i64 0)]) <|
       .ret (.tup [.agg [.int .i64 (((0 : Int), (0 : Int)) : EVal).1, .int .i64 (((0 : Int), (0 : Int)) : EVal).2], .c (.int .i64 0)]) [.cells 44 [.int .i64 (takenV v).1, .int .i64 (takenV v).2], .cells 44 [.int .i64 (((0 : Int), (0 : Int)) : EVal).1, .int .i64 (((0 : Int), (0 : Int)) : EVal).2]]))
     (.call 74 [.c (.int .i64 0)] false (.tup [.agg [.int .i64 (((0 : Int), (0 : Int)) : EVal).1, .int .i64 (((0 : Int), (0 : Int)) : EVal).2], .c (.int .i64 0)]) <|
      .ret (.tup [.agg [.int .i64 (((0 : Int), (0 : Int)) : EVal).1, .int .i64 (((0 : Int), (0 : Int)) : EVal).2], .c (.int .i64 0)]) [.cells 44 [.int .i64 (takenV v).1, .int .i64 (takenV v).2], .cells 44 [.int .i64 (((0 : Int), (0 : Int)) : EVal).1, .int .i64 (((0 : Int), (0 : Int)) : EVal).2]])))
   (.ite (decide (o = 12))
    (.ite (decide ((takenV v).1 = 3))
     (.call 73 [.agg [.int .i64 (takenV v).1, .int .i64 (takenV v).2]] false (.c (.flt (fltV (takenV v)))) <|
      .call 72 [.c (.flt (Op.negFloat .f64 (fltV (takenV v))))] false (.agg [.int .i64 (ofV (Op.negFloat .f64 (fltV (takenV v)))).1, .int .i64 (ofV (Op.negFloat .f64 (fltV (takenV v)))).2]) <|
      .ret (.tup [.agg [.int .i64 (ofV (Op.negFloat .f64 (fltV (takenV v)))).1, .int .i64 (ofV (Op.negFloat .f64 (fltV (takenV v)))).2], .c (.int .i64 (-1))]) [.cells 44 [.int .i64 (takenV v).1, .int .i64 (takenV v).2], .cells 44 [.int .i64 (ofV (Op.negFloat .f64 (fltV (takenV v)))).1, .int .i64 (ofV (Op.negFloat .f64 (fltV (takenV v)))).2]])
     (.call 74 [.c (.int .i64 0)] false (.tup [.agg [.int .i64 (((0 : Int), (0 : Int)) : EVal).1, .int .i64 (((0 : Int), (0 : Int)) : EVal).2], .c (.int .i64 0)]) <|
      .ret (.tup [.agg [.int .i64 (((0 : Int), (0 : Int)) : EVal).1, .int .i64 (((0 : Int), (0 : Int)) : EVal).2], .c (.int .i64 0)]) [.cells 44 [.int .i64 (takenV v).1, .int .i64 (takenV v).2], .cells 44 [.int .i64 (((0 : Int), (0 : Int)) : EVal).1, .int .i64 (((0 : Int), (0 : Int)) : EVal).2]]))
    (.call 74 [.c (.int .i64 0)] false (.tup [.agg [.int .i64 (((0 : Int), (0 : Int)) : EVal).1, .int .i64 (((0 : Int), (0 : Int)) : EVal).2], .c (.int .i64 0)]) <|
     .ret (.tup [.agg [.int .i64 (((0 : Int), (0 : Int)) : EVal).1, .int .i64 (((0 : Int), (0 : Int)) : EVal).2], .c (.int .i64 0)]) [.cells 44 [.int .i64 (takenV v).1, .int .i64 (takenV v).2], .cells 44 [.int .i64 (((0 : Int), (0 : Int)) : EVal).1, .int .i64 (((0 : Int), (0 : Int)) : EVal).2]])))
theorem unaryV_T_ok (o : Int) (v : EVal) : aRun Tryd.prog oc_unaryV Tryd.f34 unaryV_lv 3000 [.code (bodyOf Tryd.f34)] ([.c (.int .i64 o), .agg (tVal.enc v)] ++ List.replicate (Func.ntmps Tryd.f34 - 2) .junk) [] = unaryV_T o v := by kernel_rfl
theorem unaryV_fun (o : Int) (v : EVal) : AFun Tryd.prog 34 [.c (.int .i64 o), .agg (tVal.enc v)] (.tup [.agg (Ty.enc tVal ((unaryV o v).1)), .c (.int .i64 ((unaryV o v).2))]) :=
  AFun.of oc_unaryV unaryV_lv 3000 Tryd.func34 mixed rfl (by decide) (Nat.le_of_ble_eq_true rfl) _ (unaryV_T_ok o v) fun hF => by
    unfold unaryV_T
    refine g_call (otaken_fun v) (fun h => nomatch h) ?_
    refine g_iteD (fun h0 => ?_) (fun h0 => ?_)
    · refine g_call (truthy_fun (takenV v)) (fun h => nomatch h) ?_
      refine g_call (truthv_fun (!(truthyV (takenV v)))) (fun h => nomatch h) ?_
      exact g_rt rfl rfl (by simp only [unaryV, h0, reduceIte, Int.reduceEq, and_true, true_and, and_false, false_and]; exact leAV.refl _)
    · refine g_iteD (fun h1 => ?_) (fun h1 => ?_)
      · refine g_iteD (fun h2 => ?_) (fun h2 => ?_)
        · refine g_need (by have q := taken_in (v := v) (by assumption); rw [i64_iff]; omega) ?_
          refine g_call (wholev_fun (0 - (takenV v).2)) (fun h => nomatch h) ?_
          exact g_rt rfl rfl (by simp only [unaryV, h0, h1, h2, reduceIte, Int.reduceEq, and_true, true_and, and_false, false_and]; exact leAV.refl _)
        · refine g_iteD (fun h3 => ?_) (fun h3 => ?_)
          · refine g_iteD (fun h4 => ?_) (fun h4 => ?_)
            · refine g_call (floatv_fun (takenV v)) (fun h => nomatch h) ?_
              refine g_call (ofv_fun (Op.negFloat .f64 (fltV (takenV v))) (fun _ => neg_lt _)) (fun h => nomatch h) ?_
              exact g_rt rfl rfl (by simp only [unaryV, h0, h1, h2, h3, h4, reduceIte, Int.reduceEq, and_true, true_and, and_false, false_and]; exact leAV.refl _)
            · refine g_call (failv_fun 0) (fun h => nomatch h) ?_
              exact g_rt rfl rfl (by simp only [unaryV, h0, h1, h2, h3, h4, reduceIte, Int.reduceEq, and_true, true_and, and_false, false_and]; exact leAV.refl _)
          · refine g_call (failv_fun 0) (fun h => nomatch h) ?_
            exact g_rt rfl rfl (by exfalso; omega)
      · refine g_iteD (fun h2 => ?_) (fun h2 => ?_)
        · refine g_iteD (fun h3 => ?_) (fun h3 => ?_)
          · refine g_call (floatv_fun (takenV v)) (fun h => nomatch h) ?_
            refine g_call (ofv_fun (Op.negFloat .f64 (fltV (takenV v))) (fun _ => neg_lt _)) (fun h => nomatch h) ?_
            exact g_rt rfl rfl (by exfalso; omega)
          · refine g_call (failv_fun 0) (fun h => nomatch h) ?_
            exact g_rt rfl rfl (by exfalso; omega)
        · refine g_call (failv_fun 0) (fun h => nomatch h) ?_
          exact g_rt rfl rfl (by simp only [unaryV, h0, h1, h2, reduceIte, Int.reduceEq, and_true, true_and, and_false, false_and]; exact leAV.refl _)

def binaryV (o : Int) (v w : EVal) : EVal × Int := if (takenV v).1 = 3 ∧ (takenV w).1 = 3 then floatsV o (fltV (takenV v)) (fltV (takenV w)) else if o = 8 then (truthV (decide ((takenV v).1 = (takenV w).1) && (decide ((takenV v).2 = (takenV w).2) && true)), -1) else if (takenV v).1 = 2 ∧ (takenV w).1 = 2 then wholesV o (takenV v).2 (takenV w).2 else ((0, 0), 0)
noncomputable def oc_binaryV : Orc where
  pure := fun f args => match f, args with
    | 68, [a0] => match dA tVal a0 with
      | some x0 => some (.agg (Ty.enc tVal (takenV x0)))
      | _ => none
    | 69, [a0] => match dA .bool a0 with
      | some x0 => some (.agg (Ty.enc tVal (truthV x0)))
      | _ => none
    | 73, [a0] => match dA tVal a0 with
      | some x0 => some (.c (.flt (fltV x0)))
      | _ => none
    | 74, [a0] => match dA tI a0 with
      | some x0 => some (.tup [.agg (Ty.enc tVal ((((0 : Int), (0 : Int)) : EVal))), .c (.int .i64 (x0))])
      | _ => none
    | 75, [a0, .one (.c (.flt x1)), .one (.c (.flt x2))] => match dA tI a0 with
      | some x0 => some (.tup [.agg (Ty.enc tVal ((floatsV x0 x1 x2).1)), .c (.int .i64 ((floatsV x0 x1 x2).2))])
      | _ => none
    | 76, [a0, a1, a2] => match dA tI a0, dA tI a1, dA tI a2 with
      | some x0, some x1, some x2 => some (.tup [.agg (Ty.enc tVal ((wholesV x0 x1 x2).1)), .c (.int .i64 ((wholesV x0 x1 x2).2))])
      | _, _, _ => none
    | _, _ => none
  heap := fun _ _ _ => none
def binaryV_lv : LV := ⟨([]), []⟩
noncomputable def binaryV_T (o : Int) (v : EVal) (w : EVal) : Tree :=
  .call 68 [.agg (Ty.enc tVal v)] false (.agg [.int .i64 (takenV v).1, .int .i64 (takenV v).2]) <|
  .call 68 [.agg (Ty.enc tVal w)] false (.agg [.int .i64 (takenV w).1, .int .i64 (takenV w).2]) <|
  .ite (decide ((takenV v).1 = 3))
  (.ite (decide ((takenV w).1 = 3))
   (.call 73 [.agg [.int .i64 (takenV v).1, .int .i64 (takenV v).2]] false (.c (.flt (fltV (takenV v)))) <|
    .call 73 [.agg [.int .i64 (takenV w).1, .int .i64 (takenV w).2]] false (.c (.flt (fltV (takenV w)))) <|
    .call 75 [.c (.int .i64 o), .c (.flt (fltV (takenV v))), .c (.flt (fltV (takenV w)))] false (.tup [.agg [.int .i64 (floatsV o (fltV (takenV v)) (fltV (takenV w))).1.1, .int .i64 (floatsV o (fltV (takenV v)) (fltV (takenV w))).1.2], .c (.int .i64 (floatsV o (fltV (takenV v)) (fltV (takenV w))).2)]) <|
    .ret (.tup [.agg [.int .i64 (floatsV o (fltV (takenV v)) (fltV (takenV w))).1.1, .int .i64 (floatsV o (fltV (takenV v)) (fltV (takenV w))).1.2], .c (.int .i64 (floatsV o (fltV (takenV v)) (fltV (takenV w))).2)]) [.cells 44 [.int .i64 (takenV v).1, .int .i64 (takenV v).2], .cells 44 [.int .i64 (takenV w).1, .int .i64 (takenV w).2], .cells 44 [.int .i64 (floatsV o (fltV (takenV v)) (fltV (takenV w))).1.1, .int .i64 (floatsV o (fltV (takenV v)) (fltV (takenV w))).1.2]])
   (.ite (decide (o = 8))
    (.call 69 [.c (.bool (decide ((takenV v).1 = (takenV w).1) && (decide ((takenV v).2 = (takenV w).2) && true)))] false (.agg [.int .i64 (truthV (decide ((takenV v).1 = (takenV w).1) && (decide ((takenV v).2 = (takenV w).2) && true))).1, .int .i64 (truthV (decide ((takenV v).1 = (takenV w).1) && (decide ((takenV v).2 = (takenV w).2) && true))).2]) <|
     .ret (.tup [.agg [.int .i64 (truthV (decide ((takenV v).1 = (takenV w).1) && (decide ((takenV v).2 = (takenV w).2) && true))).1, .int .i64 (truthV (decide ((takenV v).1 = (takenV w).1) && (decide ((takenV v).2 = (takenV w).2) && true))).2], .c (.int .i64 (-1))]) [.cells 44 [.int .i64 (takenV v).1, .int .i64 (takenV v).2], .cells 44 [.int .i64 (takenV w).1, .int .i64 (takenV w).2], .cells 44 [.int .i64 (truthV (decide ((takenV v).1 = (takenV w).1) && (decide ((takenV v).2 = (takenV w).2) && true))).1, .int .i64 (truthV (decide ((takenV v).1 = (takenV w).1) && (decide ((takenV v).2 = (takenV w).2) && true))).2]])
    (.ite (decide ((takenV v).1 = 2))
     (.ite (decide ((takenV w).1 = 2))
      (.call 76 [.c (.int .i64 o), .c (.int .i64 (takenV v).2), .c (.int .i64 (takenV w).2)] false (.tup [.agg [.int .i64 (wholesV o (takenV v).2 (takenV w).2).1.1, .int .i64 (wholesV o (takenV v).2 (takenV w).2).1.2], .c (.int .i64 (wholesV o (takenV v).2 (takenV w).2).2)]) <|
       .ret (.tup [.agg [.int .i64 (wholesV o (takenV v).2 (takenV w).2).1.1, .int .i64 (wholesV o (takenV v).2 (takenV w).2).1.2], .c (.int .i64 (wholesV o (takenV v).2 (takenV w).2).2)]) [.cells 44 [.int .i64 (takenV v).1, .int .i64 (takenV v).2], .cells 44 [.int .i64 (takenV w).1, .int .i64 (takenV w).2], .cells 44 [.int .i64 (wholesV o (takenV v).2 (takenV w).2).1.1, .int .i64 (wholesV o (takenV v).2 (takenV w).2).1.2]])
      (.call 74 [.c (.int .i64 0)] false (.tup [.agg [.int .i64 (((0 : Int), (0 : Int)) : EVal).1, .int .i64 (((0 : Int), (0 : Int)) : EVal).2], .c (.int .i64 0)]) <|
       .ret (.tup [.agg [.int .i64 (((0 : Int), (0 : Int)) : EVal).1, .int .i64 (((0 : Int), (0 : Int)) : EVal).2], .c (.int .i64 0)]) [.cells 44 [.int .i64 (takenV v).1, .int .i64 (takenV v).2], .cells 44 [.int .i64 (takenV w).1, .int .i64 (takenV w).2], .cells 44 [.int .i64 (((0 : Int), (0 : Int)) : EVal).1, .int .i64 (((0 : Int), (0 : Int)) : EVal).2]]))
     (.call 74 [.c (.int .i64 0)] false (.tup [.agg [.int .i64 (((0 : Int), (0 : Int)) : EVal).1, .int .i64 (((0 : Int), (0 : Int)) : EVal).2], .c (.int .i64 0)]) <|
      .ret (.tup [.agg [.int .i64 (((0 : Int), (0 : Int)) : EVal).1, .int .i64 (((0 : Int), (0 : Int)) : EVal).2], .c (.int .i64 0)]) [.cells 44 [.int .i64 (takenV v).1, .int .i64 (takenV v).2], .cells 44 [.int .i64 (takenV w).1, .int .i64 (takenV w).2], .cells 44 [.int .i64 (((0 : Int), (0 : Int)) : EVal).1, .int .i64 (((0 : Int), (0 : Int)) : EVal).2]]))))
  (.ite (decide (o = 8))
   (.call 69 [.c (.bool (decide ((takenV v).1 = (takenV w).1) && (decide ((takenV v).2 = (takenV w).2) && true)))] false (.agg [.int .i64 (truthV (decide ((takenV v).1 = (takenV w).1) && (decide ((takenV v).2 = (takenV w).2) && true))).1, .int .i64 (truthV (decide ((takenV v).1 = (takenV w).1) && (decide ((takenV v).2 = (takenV w).2) && true))).2]) <|
    .ret (.tup [.agg [.int .i64 (truthV (decide ((takenV v).1 = (takenV w).1) && (decide ((takenV v).2 = (takenV w).2) && true))).1, .int .i64 (truthV (decide ((takenV v).1 = (takenV w).1) && (decide ((takenV v).2 = (takenV w).2) && true))).2], .c (.int .i64 (-1))]) [.cells 44 [.int .i64 (takenV v).1, .int .i64 (takenV v).2], .cells 44 [.int .i64 (takenV w).1, .int .i64 (takenV w).2], .cells 44 [.int .i64 (truthV (decide ((takenV v).1 = (takenV w).1) && (decide ((takenV v).2 = (takenV w).2) && true))).1, .int .i64 (truthV (decide ((takenV v).1 = (takenV w).1) && (decide ((takenV v).2 = (takenV w).2) && true))).2]])
   (.ite (decide ((takenV v).1 = 2))
    (.ite (decide ((takenV w).1 = 2))
     (.call 76 [.c (.int .i64 o), .c (.int .i64 (takenV v).2), .c (.int .i64 (takenV w).2)] false (.tup [.agg [.int .i64 (wholesV o (takenV v).2 (takenV w).2).1.1, .int .i64 (wholesV o (takenV v).2 (takenV w).2).1.2], .c (.int .i64 (wholesV o (takenV v).2 (takenV w).2).2)]) <|
      .ret (.tup [.agg [.int .i64 (wholesV o (takenV v).2 (takenV w).2).1.1, .int .i64 (wholesV o (takenV v).2 (takenV w).2).1.2], .c (.int .i64 (wholesV o (takenV v).2 (takenV w).2).2)]) [.cells 44 [.int .i64 (takenV v).1, .int .i64 (takenV v).2], .cells 44 [.int .i64 (takenV w).1, .int .i64 (takenV w).2], .cells 44 [.int .i64 (wholesV o (takenV v).2 (takenV w).2).1.1, .int .i64 (wholesV o (takenV v).2 (takenV w).2).1.2]])
     (.call 74 [.c (.int .i64 0)] false (.tup [.agg [.int .i64 (((0 : Int), (0 : Int)) : EVal).1, .int .i64 (((0 : Int), (0 : Int)) : EVal).2], .c (.int .i64 0)]) <|
      .ret (.tup [.agg [.int .i64 (((0 : Int), (0 : Int)) : EVal).1, .int .i64 (((0 : Int), (0 : Int)) : EVal).2], .c (.int .i64 0)]) [.cells 44 [.int .i64 (takenV v).1, .int .i64 (takenV v).2], .cells 44 [.int .i64 (takenV w).1, .int .i64 (takenV w).2], .cells 44 [.int .i64 (((0 : Int), (0 : Int)) : EVal).1, .int .i64 (((0 : Int), (0 : Int)) : EVal).2]]))
    (.call 74 [.c (.int .i64 0)] false (.tup [.agg [.int .i64 (((0 : Int), (0 : Int)) : EVal).1, .int .i64 (((0 : Int), (0 : Int)) : EVal).2], .c (.int .i64 0)]) <|
     .ret (.tup [.agg [.int .i64 (((0 : Int), (0 : Int)) : EVal).1, .int .i64 (((0 : Int), (0 : Int)) : EVal).2], .c (.int .i64 0)]) [.cells 44 [.int .i64 (takenV v).1, .int .i64 (takenV v).2], .cells 44 [.int .i64 (takenV w).1, .int .i64 (takenV w).2], .cells 44 [.int .i64 (((0 : Int), (0 : Int)) : EVal).1, .int .i64 (((0 : Int), (0 : Int)) : EVal).2]])))
theorem binaryV_T_ok (o : Int) (v : EVal) (w : EVal) : aRun Tryd.prog oc_binaryV Tryd.f35 binaryV_lv 3000 [.code (bodyOf Tryd.f35)] ([.c (.int .i64 o), .agg (tVal.enc v), .agg (tVal.enc w)] ++ List.replicate (Func.ntmps Tryd.f35 - 3) .junk) [] = binaryV_T o v w := by kernel_rfl
theorem binaryV_fun (o : Int) (v : EVal) (w : EVal) : AFun Tryd.prog 35 [.c (.int .i64 o), .agg (tVal.enc v), .agg (tVal.enc w)] (.tup [.agg (Ty.enc tVal ((binaryV o v w).1)), .c (.int .i64 ((binaryV o v w).2))]) :=
  AFun.of oc_binaryV binaryV_lv 3000 Tryd.func35 mixed rfl (by decide) (Nat.le_of_ble_eq_true rfl) _ (binaryV_T_ok o v w) fun hF => by
    unfold binaryV_T
    refine g_call (otaken_fun v) (fun h => nomatch h) ?_
    refine g_call (otaken_fun w) (fun h => nomatch h) ?_
    refine g_iteD (fun h0 => ?_) (fun h0 => ?_)
    · refine g_iteD (fun h1 => ?_) (fun h1 => ?_)
      · refine g_call (floatv_fun (takenV v)) (fun h => nomatch h) ?_
        refine g_call (floatv_fun (takenV w)) (fun h => nomatch h) ?_
        refine g_call (floatsV_fun o (fltV (takenV v)) (fltV (takenV w))) (fun h => nomatch h) ?_
        exact g_rt rfl rfl (by simp only [binaryV, h0, h1, reduceIte, Int.reduceEq, and_true, true_and, and_false, false_and]; exact leAV.refl _)
      · refine g_iteD (fun h2 => ?_) (fun h2 => ?_)
        · refine g_call (truthv_fun (decide ((takenV v).1 = (takenV w).1) && (decide ((takenV v).2 = (takenV w).2) && true))) (fun h => nomatch h) ?_
          exact g_rt rfl rfl (by simp only [binaryV, h0, h1, h2, reduceIte, Int.reduceEq, and_true, true_and, and_false, false_and]; exact leAV.refl _)
        · refine g_iteD (fun h3 => ?_) (fun h3 => ?_)
          · refine g_iteD (fun h4 => ?_) (fun h4 => ?_)
            · refine g_call (wholesV_fun o (takenV v).2 (takenV w).2 (taken_in (by assumption)) (taken_in (by assumption))) (fun h => nomatch h) ?_
              exact g_rt rfl rfl (by exfalso; omega)
            · refine g_call (failv_fun 0) (fun h => nomatch h) ?_
              exact g_rt rfl rfl (by exfalso; omega)
          · refine g_call (failv_fun 0) (fun h => nomatch h) ?_
            exact g_rt rfl rfl (by simp only [binaryV, h0, h1, h2, h3, reduceIte, Int.reduceEq, and_true, true_and, and_false, false_and]; exact leAV.refl _)
    · refine g_iteD (fun h1 => ?_) (fun h1 => ?_)
      · refine g_call (truthv_fun (decide ((takenV v).1 = (takenV w).1) && (decide ((takenV v).2 = (takenV w).2) && true))) (fun h => nomatch h) ?_
        exact g_rt rfl rfl (by simp only [binaryV, h0, h1, reduceIte, Int.reduceEq, and_true, true_and, and_false, false_and]; exact leAV.refl _)
      · refine g_iteD (fun h2 => ?_) (fun h2 => ?_)
        · refine g_iteD (fun h3 => ?_) (fun h3 => ?_)
          · refine g_call (wholesV_fun o (takenV v).2 (takenV w).2 (taken_in (by assumption)) (taken_in (by assumption))) (fun h => nomatch h) ?_
            exact g_rt rfl rfl (by simp only [binaryV, h0, h1, h2, h3, reduceIte, Int.reduceEq, and_true, true_and, and_false, false_and]; exact leAV.refl _)
          · refine g_call (failv_fun 0) (fun h => nomatch h) ?_
            exact g_rt rfl rfl (by simp only [binaryV, h0, h1, h2, h3, reduceIte, Int.reduceEq, and_true, true_and, and_false, false_and]; exact leAV.refl _)
        · refine g_call (failv_fun 0) (fun h => nomatch h) ?_
          exact g_rt rfl rfl (by simp only [binaryV, h0, h1, h2, reduceIte, Int.reduceEq, and_true, true_and, and_false, false_and]; exact leAV.refl _)

end Go.Proofs.YtefkifdhjabdiaaDoor
namespace Go.Proofs.YtefkifdhjabdiaaDoor
set_option linter.unusedVariables false
set_option linter.unusedSimpArgs false
set_option maxRecDepth 100000
def oc0 : Orc := ⟨fun _ _ => none, fun _ _ _ => none⟩
def ofF (op : Int) : EForm × Bool :=
  if op = 1 then ((0, (0, (1073741824, (false, (true, 0))))), true)
  else if op = 2 then ((0, (0, (0, (true, (true, 0))))), true)
  else if op = 3 then ((0, (0, (0, (false, (true, 0))))), true)
  else if op = 4 then ((1, (0, (6, (false, (false, 2))))), true)
  else if op = 5 then ((1, (0, (1, (false, (false, 2))))), true)
  else if op = 6 then ((1, (0, (0, (true, (false, 2))))), true)
  else if op = 7 then ((2, (3, (10, (false, (true, 1))))), true)
  else if op = 8 then ((1, (11, (12, (false, (true, 1))))), true)
  else if op = 9 then ((1, (1, (7, (false, (false, 2))))), true)
  else if op = 10 then ((1, (0, (99, (false, (true, 0))))), true)
  else if op = 11 then ((2, (0, (99, (false, (false, 0))))), true)
  else if op = 12 then ((2, (1, (1073741824, (false, (false, 2))))), true)
  else if op = 13 then ((2, (0, (0, (false, (true, 2))))), true)
  else if op = 14 then ((3, (0, (0, (false, (false, 2))))), true)
  else if op = 15 then ((1, (0, (0, (false, (true, 0))))), true)
  else if op = 16 then ((0, (1, (3, (false, (true, 2))))), true)
  else if op = 17 then ((2, (0, (0, (false, (false, 1))))), true)
  else if op = 18 then ((0, (0, (0, (false, (true, 2))))), true)
  else if op = 19 then ((0, (1, (1073741824, (false, (false, 2))))), true)
  else ((0, (0, (0, (false, (false, 0))))), false)
def of__lv : LV := ⟨([]), []⟩
noncomputable def of__T (op : Int) : Tree :=
  .ite (decide (op = 1))
  (.ret (.tup [.agg [.int .i64 0, .int .i64 0, .int .i64 1073741824, .lit false, .lit true, .int .i64 0], .c (.lit true)]) [.cells 88 [.int .i64 0, .int .i64 0, .int .i64 1073741824, .lit false, .lit true, .int .i64 0]])
  (.ite (decide (op = 2))
   (.ret (.tup [.agg [.int .i64 0, .int .i64 0, .int .i64 0, .lit true, .lit true, .int .i64 0], .c (.lit true)]) [.cells 88 [.int .i64 0, .int .i64 0, .int .i64 0, .lit true, .lit true, .int .i64 0]])
   (.ite (decide (op = 3))
    (.ret (.tup [.agg [.int .i64 0, .int .i64 0, .int .i64 0, .lit false, .lit true, .int .i64 0], .c (.lit true)]) [.cells 88 [.int .i64 0, .int .i64 0, .int .i64 0, .lit false, .lit true, .int .i64 0]])
    (.ite (decide (op = 4))
     (.ret (.tup [.agg [.int .i64 1, .int .i64 0, .int .i64 6, .lit false, .lit false, .int .i64 2], .c (.lit true)]) [.cells 88 [.int .i64 1, .int .i64 0, .int .i64 6, .lit false, .lit false, .int .i64 2]])
     (.ite (decide (op = 5))
      (.ret (.tup [.agg [.int .i64 1, .int .i64 0, .int .i64 1, .lit false, .lit false, .int .i64 2], .c (.lit true)]) [.cells 88 [.int .i64 1, .int .i64 0, .int .i64 1, .lit false, .lit false, .int .i64 2]])
      (.ite (decide (op = 6))
       (.ret (.tup [.agg [.int .i64 1, .int .i64 0, .int .i64 0, .lit true, .lit false, .int .i64 2], .c (.lit true)]) [.cells 88 [.int .i64 1, .int .i64 0, .int .i64 0, .lit true, .lit false, .int .i64 2]])
       (.ite (decide (op = 7))
        (.ret (.tup [.agg [.int .i64 2, .int .i64 3, .int .i64 10, .lit false, .lit true, .int .i64 1], .c (.lit true)]) [.cells 88 [.int .i64 2, .int .i64 3, .int .i64 10, .lit false, .lit true, .int .i64 1]])
        (.ite (decide (op = 8))
         (.ret (.tup [.agg [.int .i64 1, .int .i64 11, .int .i64 12, .lit false, .lit true, .int .i64 1], .c (.lit true)]) [.cells 88 [.int .i64 1, .int .i64 11, .int .i64 12, .lit false, .lit true, .int .i64 1]])
         (.ite (decide (op = 9))
          (.ret (.tup [.agg [.int .i64 1, .int .i64 1, .int .i64 7, .lit false, .lit false, .int .i64 2], .c (.lit true)]) [.cells 88 [.int .i64 1, .int .i64 1, .int .i64 7, .lit false, .lit false, .int .i64 2]])
          (.ite (decide (op = 10))
           (.ret (.tup [.agg [.int .i64 1, .int .i64 0, .int .i64 99, .lit false, .lit true, .int .i64 0], .c (.lit true)]) [.cells 88 [.int .i64 1, .int .i64 0, .int .i64 99, .lit false, .lit true, .int .i64 0]])
           (.ite (decide (op = 11))
            (.ret (.tup [.agg [.int .i64 2, .int .i64 0, .int .i64 99, .lit false, .lit false, .int .i64 0], .c (.lit true)]) [.cells 88 [.int .i64 2, .int .i64 0, .int .i64 99, .lit false, .lit false, .int .i64 0]])
            (.ite (decide (op = 12))
             (.ret (.tup [.agg [.int .i64 2, .int .i64 1, .int .i64 1073741824, .lit false, .lit false, .int .i64 2], .c (.lit true)]) [.cells 88 [.int .i64 2, .int .i64 1, .int .i64 1073741824, .lit false, .lit false, .int .i64 2]])
             (.ite (decide (op = 13))
              (.ret (.tup [.agg [.int .i64 2, .int .i64 0, .int .i64 0, .lit false, .lit true, .int .i64 2], .c (.lit true)]) [.cells 88 [.int .i64 2, .int .i64 0, .int .i64 0, .lit false, .lit true, .int .i64 2]])
              (.ite (decide (op = 14))
               (.ret (.tup [.agg [.int .i64 3, .int .i64 0, .int .i64 0, .lit false, .lit false, .int .i64 2], .c (.lit true)]) [.cells 88 [.int .i64 3, .int .i64 0, .int .i64 0, .lit false, .lit false, .int .i64 2]])
               (.ite (decide (op = 15))
                (.ret (.tup [.agg [.int .i64 1, .int .i64 0, .int .i64 0, .lit false, .lit true, .int .i64 0], .c (.lit true)]) [.cells 88 [.int .i64 1, .int .i64 0, .int .i64 0, .lit false, .lit true, .int .i64 0]])
                (.ite (decide (op = 16))
                 (.ret (.tup [.agg [.int .i64 0, .int .i64 1, .int .i64 3, .lit false, .lit true, .int .i64 2], .c (.lit true)]) [.cells 88 [.int .i64 0, .int .i64 1, .int .i64 3, .lit false, .lit true, .int .i64 2]])
                 (.ite (decide (op = 17))
                  (.ret (.tup [.agg [.int .i64 2, .int .i64 0, .int .i64 0, .lit false, .lit false, .int .i64 1], .c (.lit true)]) [.cells 88 [.int .i64 2, .int .i64 0, .int .i64 0, .lit false, .lit false, .int .i64 1]])
                  (.ite (decide (op = 18))
                   (.ret (.tup [.agg [.int .i64 0, .int .i64 0, .int .i64 0, .lit false, .lit true, .int .i64 2], .c (.lit true)]) [.cells 88 [.int .i64 0, .int .i64 0, .int .i64 0, .lit false, .lit true, .int .i64 2]])
                   (.ite (decide (op = 19))
                    (.ret (.tup [.agg [.int .i64 0, .int .i64 1, .int .i64 1073741824, .lit false, .lit false, .int .i64 2], .c (.lit true)]) [.cells 88 [.int .i64 0, .int .i64 1, .int .i64 1073741824, .lit false, .lit false, .int .i64 2]])
                    (.ret (.tup [.agg [.int .i64 0, .int .i64 0, .int .i64 0, .lit false, .lit false, .int .i64 0], .c (.lit false)]) [.cells 88 [.int .i64 0, .int .i64 0, .int .i64 0, .lit false, .lit false, .int .i64 0]])))))))))))))))))))
theorem of__T_ok (op : Int) : aRun Tryd.prog oc0 Tryd.f43 of__lv 3000 [.code (bodyOf Tryd.f43)] ([.c (.int .i64 op)] ++ List.replicate (Func.ntmps Tryd.f43 - 1) .junk) [] = of__T op := by kernel_rfl
theorem of__fun (op : Int) : AFun Tryd.prog 43 [.c (.int .i64 op)] (.tup [.agg (Ty.enc tForm ((ofF op).1)), .c (.bool ((ofF op).2))]) :=
  AFun.of oc0 of__lv 3000 Tryd.func43 mixed rfl (by decide) (Nat.le_of_ble_eq_true rfl) _ (of__T_ok op) fun hF => by
    unfold of__T
    refine g_iteD (fun h0 => ?_) (fun h0 => ?_)
    · exact g_rt rfl rfl (by simp_all [leAV, leA1, leA1s, leCs, leC, Ty.enc, ofF])
    · refine g_iteD (fun h1 => ?_) (fun h1 => ?_)
      · exact g_rt rfl rfl (by simp_all [leAV, leA1, leA1s, leCs, leC, Ty.enc, ofF])
      · refine g_iteD (fun h2 => ?_) (fun h2 => ?_)
        · exact g_rt rfl rfl (by simp_all [leAV, leA1, leA1s, leCs, leC, Ty.enc, ofF])
        · refine g_iteD (fun h3 => ?_) (fun h3 => ?_)
          · exact g_rt rfl rfl (by simp_all [leAV, leA1, leA1s, leCs, leC, Ty.enc, ofF])
          · refine g_iteD (fun h4 => ?_) (fun h4 => ?_)
            · exact g_rt rfl rfl (by simp_all [leAV, leA1, leA1s, leCs, leC, Ty.enc, ofF])
            · refine g_iteD (fun h5 => ?_) (fun h5 => ?_)
              · exact g_rt rfl rfl (by simp_all [leAV, leA1, leA1s, leCs, leC, Ty.enc, ofF])
              · refine g_iteD (fun h6 => ?_) (fun h6 => ?_)
                · exact g_rt rfl rfl (by simp_all [leAV, leA1, leA1s, leCs, leC, Ty.enc, ofF])
                · refine g_iteD (fun h7 => ?_) (fun h7 => ?_)
                  · exact g_rt rfl rfl (by simp_all [leAV, leA1, leA1s, leCs, leC, Ty.enc, ofF])
                  · refine g_iteD (fun h8 => ?_) (fun h8 => ?_)
                    · exact g_rt rfl rfl (by simp_all [leAV, leA1, leA1s, leCs, leC, Ty.enc, ofF])
                    · refine g_iteD (fun h9 => ?_) (fun h9 => ?_)
                      · exact g_rt rfl rfl (by simp_all [leAV, leA1, leA1s, leCs, leC, Ty.enc, ofF])
                      · refine g_iteD (fun h10 => ?_) (fun h10 => ?_)
                        · exact g_rt rfl rfl (by simp_all [leAV, leA1, leA1s, leCs, leC, Ty.enc, ofF])
                        · refine g_iteD (fun h11 => ?_) (fun h11 => ?_)
                          · exact g_rt rfl rfl (by simp_all [leAV, leA1, leA1s, leCs, leC, Ty.enc, ofF])
                          · refine g_iteD (fun h12 => ?_) (fun h12 => ?_)
                            · exact g_rt rfl rfl (by simp_all [leAV, leA1, leA1s, leCs, leC, Ty.enc, ofF])
                            · refine g_iteD (fun h13 => ?_) (fun h13 => ?_)
                              · exact g_rt rfl rfl (by simp_all [leAV, leA1, leA1s, leCs, leC, Ty.enc, ofF])
                              · refine g_iteD (fun h14 => ?_) (fun h14 => ?_)
                                · exact g_rt rfl rfl (by simp_all [leAV, leA1, leA1s, leCs, leC, Ty.enc, ofF])
                                · refine g_iteD (fun h15 => ?_) (fun h15 => ?_)
                                  · exact g_rt rfl rfl (by simp_all [leAV, leA1, leA1s, leCs, leC, Ty.enc, ofF])
                                  · refine g_iteD (fun h16 => ?_) (fun h16 => ?_)
                                    · exact g_rt rfl rfl (by simp_all [leAV, leA1, leA1s, leCs, leC, Ty.enc, ofF])
                                    · refine g_iteD (fun h17 => ?_) (fun h17 => ?_)
                                      · exact g_rt rfl rfl (by simp_all [leAV, leA1, leA1s, leCs, leC, Ty.enc, ofF])
                                      · refine g_iteD (fun h18 => ?_) (fun h18 => ?_)
                                        · exact g_rt rfl rfl (by simp_all [leAV, leA1, leA1s, leCs, leC, Ty.enc, ofF])
                                        · exact g_rt rfl rfl (by simp_all [leAV, leA1, leA1s, leCs, leC, Ty.enc, ofF])

end Go.Proofs.YtefkifdhjabdiaaDoor
namespace Go.Proofs.YtefkifdhjabdiaaDoor
set_option linter.unusedVariables false
set_option linter.unusedSimpArgs false
set_option maxRecDepth 100000
def tellF (op : Int) : Bool := (ofF op).1.2.2.2.2.1
noncomputable def oc1 : Orc where
  pure := fun f args => match f, args with
    | 43, [a0] => match dA tI a0 with
      | some x0 => some (.tup [.agg (Ty.enc tForm ((ofF x0).1)), .c (.bool ((ofF x0).2))])
      | _ => none
    | _, _ => none
  heap := fun _ _ _ => none
def tells_lv : LV := ⟨([]), []⟩
noncomputable def tells_T (op : Int) : Tree :=
  .call 43 [.c (.int .i64 op)] false (.tup [.agg [.int .i64 (ofF op).1.1, .int .i64 (ofF op).1.2.1, .int .i64 (ofF op).1.2.2.1, .bool (ofF op).1.2.2.2.1, .bool (ofF op).1.2.2.2.2.1, .int .i64 (ofF op).1.2.2.2.2.2], .c (.bool (ofF op).2)]) <|
  .ret (.c (.bool (ofF op).1.2.2.2.2.1)) [.cells 88 [.int .i64 (ofF op).1.1, .int .i64 (ofF op).1.2.1, .int .i64 (ofF op).1.2.2.1, .bool (ofF op).1.2.2.2.1, .bool (ofF op).1.2.2.2.2.1, .int .i64 (ofF op).1.2.2.2.2.2]]
theorem tells_T_ok (op : Int) : aRun Tryd.prog oc1 Tryd.f19 tells_lv 3000 [.code (bodyOf Tryd.f19)] ([.c (.int .i64 op)] ++ List.replicate (Func.ntmps Tryd.f19 - 1) .junk) [] = tells_T op := by kernel_rfl
theorem tells_fun (op : Int) : AFun Tryd.prog 19 [.c (.int .i64 op)] (.c (.bool (tellF op))) :=
  AFun.of oc1 tells_lv 3000 Tryd.func19 mixed rfl (by decide) (Nat.le_of_ble_eq_true rfl) _ (tells_T_ok op) fun hF => by
    unfold tells_T
    refine g_call (of__fun op) (fun h => nomatch h) ?_
    exact g_retb (by rfl)

def askF (x : EIns) : List Int := if (ofF x.1).2 = true then [x.2.1, x.2.2.1, x.2.2.2.1].take (ofF x.1).1.1.toNat else []
theorem ofF_asks (op : Int) : 0 ≤ (ofF op).1.1 ∧ (ofF op).1.1 ≤ 3 := by
  unfold ofF
  repeat' first | exact ⟨by decide, by decide⟩ | refine iteP (fun r : EForm × Bool => 0 ≤ r.1.1 ∧ r.1.1 ≤ 3) ?_ ?_
noncomputable def oc2 : Orc where
  pure := fun f args => match f, args with
    | 43, [a0] => match dA tI a0 with
      | some x0 => some (.tup [.agg (Ty.enc tForm ((ofF x0).1)), .c (.bool ((ofF x0).2))])
      | _ => none
    | _, _ => none
  heap := fun _ _ _ => none
def asks_lv : LV := ⟨([]), []⟩
noncomputable def asks_T (x : EIns) : Tree :=
  .call 43 [.c (.int .i64 x.1)] false (.tup [.agg [.int .i64 (ofF x.1).1.1, .int .i64 (ofF x.1).1.2.1, .int .i64 (ofF x.1).1.2.2.1, .bool (ofF x.1).1.2.2.2.1, .bool (ofF x.1).1.2.2.2.2.1, .int .i64 (ofF x.1).1.2.2.2.2.2], .c (.bool (ofF x.1).2)]) <|
  .ite ((!(ofF x.1).2))
  (.ret (.c (.nilsl)) [.cells 46 (Ty.enc tIns x), .cells 88 [.int .i64 (ofF x.1).1.1, .int .i64 (ofF x.1).1.2.1, .int .i64 (ofF x.1).1.2.2.1, .bool (ofF x.1).1.2.2.2.1, .bool (ofF x.1).1.2.2.2.2.1, .int .i64 (ofF x.1).1.2.2.2.2.2]])
  (.need (([0, 0, 0]).length = 3) <|
   .need ((0 : Int) ≤ (ofF x.1).1.1 ∧ ((ofF x.1).1.1 : Int) ≤ ((3 : Nat) : Int) ∧ 3 ≤ ([x.2.1, x.2.2.1, x.2.2.2.1]).length) <|
   .need ((Int.toNat (ofF x.1).1.1) ≤ ([x.2.1, x.2.2.1, x.2.2.2.1]).length) <|
   .need ((([x.2.1, x.2.2.1, x.2.2.2.1]).take (Int.toNat (ofF x.1).1.1)).length * 8 ≤ 140737488355328) <|
   .ite ((([x.2.1, x.2.2.1, x.2.2.2.1]).take (Int.toNat (ofF x.1).1.1)).isEmpty)
   (.ret (.c (.nilsl)) [.cells 46 (Ty.enc tIns x), .cells 88 [.int .i64 (ofF x.1).1.1, .int .i64 (ofF x.1).1.2.1, .int .i64 (ofF x.1).1.2.2.1, .bool (ofF x.1).1.2.2.2.1, .bool (ofF x.1).1.2.2.2.2.1, .int .i64 (ofF x.1).1.2.2.2.2.2], .vec 93 tI ([x.2.1, x.2.2.1, x.2.2.2.1])])
   (.ret (.c (.sl 3 1 0 (([x.2.1, x.2.2.1, x.2.2.2.1]).take (Int.toNat (ofF x.1).1.1)).length)) [.cells 46 (Ty.enc tIns x), .cells 88 [.int .i64 (ofF x.1).1.1, .int .i64 (ofF x.1).1.2.1, .int .i64 (ofF x.1).1.2.2.1, .bool (ofF x.1).1.2.2.2.1, .bool (ofF x.1).1.2.2.2.2.1, .int .i64 (ofF x.1).1.2.2.2.2.2], .vec 93 tI ([x.2.1, x.2.2.1, x.2.2.2.1]), .vec 3 tI (([x.2.1, x.2.2.1, x.2.2.2.1]).take (Int.toNat (ofF x.1).1.1))]))
theorem asks_T_ok (x : EIns) : aRun Tryd.prog oc2 Tryd.f18 asks_lv 3000 [.code (bodyOf Tryd.f18)] ([.agg (tIns.enc x)] ++ List.replicate (Func.ntmps Tryd.f18 - 1) .junk) [] = asks_T x := by kernel_rfl
theorem asks_fun (x : EIns) : AFun Tryd.prog 18 [.agg (tIns.enc x)] (.c (.ro tI (askF x))) :=
  AFun.of oc2 asks_lv 3000 Tryd.func18 mixed rfl (by decide) (Nat.le_of_ble_eq_true rfl) _ (asks_T_ok x) fun hF => by
    unfold asks_T
    refine g_call (of__fun x.1) (fun h => nomatch h) ?_
    refine g_iteN (fun h0 => ?_) (fun h0 => ?_)
    · exact g_rn (by simp_all [askF])
    · refine g_need (by exact rfl) ?_
      refine g_need (by have := ofF_asks x.1; simp [List.length_take]; omega) ?_
      refine g_need (by have := ofF_asks x.1; simp [List.length_take]; omega) ?_
      refine g_need (by have := ofF_asks x.1; simp [List.length_take]; omega) ?_
      refine g_ite (fun h1 => ?_) (fun h1 => ?_)
      · exact g_rn (by simp_all [askF])
      · exact g_rs rfl (by exact rfl) (by simp_all [askF])

def valueF (c : EChk) (v at_ : Int) : Bool := if 0 ≤ v then (if v < at_ then (if v < (c.2.2.2.2.1.length : Int) then tellF (c.2.2.2.2.1.getD v.toNat tIns.dflt).1 else false) else false) else false
noncomputable def oc3 : Orc where
  pure := fun f args => match f, args with
    | 19, [a0] => match dA tI a0 with
      | some x0 => some (.c (.bool (tellF x0)))
      | _ => none
    | _, _ => none
  heap := fun _ _ _ => none
def value_lv : LV := ⟨([]), []⟩
noncomputable def value_T (c : EChk) (v : Int) (at_ : Int) : Tree :=
  .ite (decide ((0 : Int) ≤ v))
  (.ite (decide (v < at_))
   (.ite (decide (v < (c.2.2.2.2.1.length : Int)))
    (.need ((0 : Int) ≤ v ∧ (v : Int) < (c.2.2.2.2.1.length : Int)) <|
     .need ((Int.toNat v) < c.2.2.2.2.1.length) <|
     .call 19 [.c (.int .i64 (c.2.2.2.2.1.getD (Int.toNat v) tIns.dflt).1)] false (.c (.bool (tellF (c.2.2.2.2.1.getD (Int.toNat v) tIns.dflt).1))) <|
     .ret (.c (.bool (tellF (c.2.2.2.2.1.getD (Int.toNat v) tIns.dflt).1))) [.cells 86 (Ty.enc tChk c)])
    (.ret (.c (.lit false)) [.cells 86 (Ty.enc tChk c)]))
   (.ret (.c (.lit false)) [.cells 86 (Ty.enc tChk c)]))
  (.ret (.c (.lit false)) [.cells 86 (Ty.enc tChk c)])
theorem value_T_ok (c : EChk) (v : Int) (at_ : Int) : aRun Tryd.prog oc3 Tryd.f86 value_lv 3000 [.code (bodyOf Tryd.f86)] ([.agg (tChk.enc c), .c (.int .i64 v), .c (.int .i64 at_)] ++ List.replicate (Func.ntmps Tryd.f86 - 3) .junk) [] = value_T c v at_ := by kernel_rfl
theorem value_fun (c : EChk) (v : Int) (at_ : Int) : AFun Tryd.prog 86 [.agg (tChk.enc c), .c (.int .i64 v), .c (.int .i64 at_)] (.c (.bool (valueF c v at_))) :=
  AFun.of oc3 value_lv 3000 Tryd.func86 mixed rfl (by decide) (Nat.le_of_ble_eq_true rfl) _ (value_T_ok c v at_) fun hF => by
    unfold value_T
    refine g_iteD (fun h0 => ?_) (fun h0 => ?_)
    · refine g_iteD (fun h1 => ?_) (fun h1 => ?_)
      · refine g_iteD (fun h2 => ?_) (fun h2 => ?_)
        · refine g_need (by omega) ?_
          refine g_need (by omega) ?_
          refine g_call (tells_fun (c.2.2.2.2.1.getD (Int.toNat v) tIns.dflt).1) (fun h => nomatch h) ?_
          exact g_retb (by simp only [valueF, h0, h1, h2, if_true, if_false])
        · exact g_retl (by simp only [valueF, h0, h1, h2, if_true, if_false])
      · exact g_retl (by simp only [valueF, h0, h1, if_true, if_false])
    · exact g_retl (by simp only [valueF, h0, if_true, if_false])

def valuesF (c : EChk) (l : List Int) (at_ : Int) : Bool := l.all fun v => valueF c v at_
noncomputable def oc4 : Orc where
  pure := fun f args => match f, args with
    | 86, [a0, a1, a2] => match dA tChk a0, dA tI a1, dA tI a2 with
      | some x0, some x1, some x2 => some (.c (.bool (valueF x0 x1 x2)))
      | _, _, _ => none
    | _, _ => none
  heap := fun _ _ _ => none
def values_lv : LV := ⟨(F2 (true :: true :: F4 (false :: true :: true :: true :: F8 (false :: [])))), []⟩
noncomputable def values_T (c : EChk) (l : List Int) (at_ : Int) : Tree :=
  .stop (lp (bodyOf Tryd.f84) 0) (J2 (.c (.int .i64 at_) :: .c (.ptr 0 0 0 0) :: J4 (.junk :: .c (.ro tI l) :: .c (.int .i64 (l.length : Int)) :: .c (.int .i64 0) :: J8 (.junk :: [])))) [.cells 86 (Ty.enc tChk c)]
theorem values_T_ok (c : EChk) (l : List Int) (at_ : Int) : aRun Tryd.prog oc4 Tryd.f84 values_lv 3000 [.code (bodyOf Tryd.f84)] ([.agg (tChk.enc c), .c (.ro tI l), .c (.int .i64 at_)] ++ List.replicate (Func.ntmps Tryd.f84 - 3) .junk) [] = values_T c l at_ := by kernel_rfl
noncomputable def values_l0_R (c : EChk) (l : List Int) (at_ : Int) (i : Nat) : Tree :=
  .ite (decide (((i : Nat) : Int) < (l.length : Int)))
  (.need ((0 : Int) ≤ ((i : Nat) : Int) ∧ (((i : Nat) : Int) : Int) < (l.length : Int)) <|
   .need (i < l.length) <|
   .call 86 [.agg (Ty.enc tChk c), .c (.int .i64 (l.getD i tI.dflt)), .c (.int .i64 at_)] false (.c (.bool (valueF c (l.getD i tI.dflt) at_))) <|
   .ite ((!(valueF c (l.getD i tI.dflt) at_)))
   (.ret (.c (.lit false)) [.cells 86 (Ty.enc tChk c)])
   (.need (inR .i64 (((i : Nat) : Int) + 1)) <|
    .stop (lp (bodyOf Tryd.f84) 0) (J2 (.c (.int .i64 at_) :: .c (.ptr 0 0 0 0) :: J4 (.junk :: .c (.ro tI l) :: .c (.int .i64 (l.length : Int)) :: .c (.int .i64 (((i : Nat) : Int) + 1)) :: J8 (.junk :: [])))) [.cells 86 (Ty.enc tChk c)]))
  (.ret (.c (.lit true)) [.cells 86 (Ty.enc tChk c)])
theorem values_l0_R_ok (c : EChk) (l : List Int) (at_ : Int) (i : Nat) : aRound Tryd.prog oc4 Tryd.f84 values_lv 3000 (lp (bodyOf Tryd.f84) 0) (J2 (.c (.int .i64 at_) :: .c (.ptr 0 0 0 0) :: J4 (.junk :: .c (.ro tI l) :: .c (.int .i64 (l.length : Int)) :: .c (.int .i64 ((i : Nat) : Int)) :: J8 (.junk :: [])))) [.cells 86 (Ty.enc tChk c)] = values_l0_R c l at_ i := by kernel_rfl
theorem values_l0 (c : EChk) (l : List Int) (at_ : Int) (i : Nat) (hl : l.length ≤ 9223372036854775807) : Run Tryd.prog 84 (retQ Tryd.prog (.c (.bool ((l.drop i).all fun v => valueF c v at_)))) (lp (bodyOf Tryd.f84) 0) (J2 (.c (.int .i64 at_) :: .c (.ptr 0 0 0 0) :: J4 (.junk :: .c (.ro tI l) :: .c (.int .i64 (l.length : Int)) :: .c (.int .i64 ((i : Nat) : Int)) :: J8 (.junk :: [])))) [.cells 86 (Ty.enc tChk c)] :=
  Run.roundA oc4 values_lv 3000 Tryd.func84 mixed (values_l0_R c l at_ i) (values_l0_R_ok c l at_ i) (by
    unfold values_l0_R
    refine g_iteD (fun h0 => ?_) (fun h0 => ?_)
    · refine g_need (by omega) ?_
      refine g_need (by omega) ?_
      refine g_call (value_fun c (l.getD i tI.dflt) at_) (fun h => nomatch h) ?_
      refine g_iteN (fun h1 => ?_) (fun h1 => ?_)
      · exact g_retl (by rw [dropCons (Ty.dflt tI) (by omega), List.all_cons, h1]; rfl)
      · refine g_need (i64_iff.2 (by omega)) ?_
        refine g_stop (RunN.keep [0] (F2 (true :: true :: F4 (false :: true :: true :: true :: F8 (false :: [])))) n0 (by decide) rfl rfl ?_)
        have := values_l0 c l at_ (i + 1) hl; rw [dropCons (Ty.dflt tI) (by omega), List.all_cons, h1, Bool.true_and]; exact this
    · exact g_retl (by rw [List.drop_eq_nil_of_le (by omega)]; rfl)
    )
  termination_by l.length - i
  decreasing_by all_goals omega
theorem values_fun (c : EChk) (l : List Int) (at_ : Int) : AFun Tryd.prog 84 [.agg (tChk.enc c), .c (.ro tI l), .c (.int .i64 at_)] (.c (.bool (valuesF c l at_))) :=
  AFun.of oc4 values_lv 3000 Tryd.func84 mixed rfl (by decide) (Nat.le_of_ble_eq_true rfl) _ (values_T_ok c l at_) fun hF => by
    unfold values_T
    refine g_stop (RunN.keep [0] (F2 (true :: true :: F4 (false :: true :: true :: true :: F8 (false :: [])))) n0 (by decide) rfl rfl ?_)
    have := values_l0 c l at_ 0 hF.cons.2.ro.1.1; simp only [List.drop_zero] at this; exact this

end Go.Proofs.YtefkifdhjabdiaaDoor
namespace Go.Proofs.YtefkifdhjabdiaaDoor
set_option maxHeartbeats 4000000
set_option linter.unusedVariables false
set_option linter.unusedSimpArgs false
set_option maxRecDepth 100000
def ownK (kind : Int → Int) (x : EIns) : Int :=
  if x.1 = 2 then x.2.2.2.2.2.2.1 else if x.1 = 15 then 2 else if x.1 = 16 then 5 else if x.1 = 18 then 5 else
  if x.1 = 7 ∨ x.1 = 8 then (if 8 ≤ x.2.2.2.2.1 ∧ x.2.2.2.2.1 ≤ 10 ∧ x.1 = 7 ∨ x.2.2.2.2.1 = 11 ∧ x.1 = 8 then 1 else if kind x.2.1 = 2 ∨ kind x.2.1 = 3 then kind x.2.1 else -1) else -1
def scanK (v : Int) : List EIns → Int
  | [] => -1
  | x :: r => if x.2.1 = v then (if x.1 = 4 then x.2.2.2.2.1 else if x.1 = 6 then x.2.2.2.2.2.2.1 else if x.1 = 9 then 5 else scanK v r) else scanK v r
def kindN (t : ETrace) : Nat → Int → Int → Int
  | 0, _, _ => -1
  | n + 1, v, a => if v < 0 then -1 else if a ≤ v then -1 else if (t.2.2.2.1.length : Int) < a then -1 else if tellF (t.2.2.2.1.getD v.toNat tIns.dflt).1 = false then -1 else
    if 0 ≤ ownK (fun b => kindN t n b v) (t.2.2.2.1.getD v.toNat tIns.dflt) then ownK (fun b => kindN t n b v) (t.2.2.2.1.getD v.toNat tIns.dflt) else scanK v ((t.2.2.2.1.take a.toNat).drop (v + 1).toNat)
noncomputable def oc24 (n : Nat) : Orc where
  pure := fun f args => match f, args with
    | 21, [a0, a1, a2] => match dA tTrace a0, dA tI a1, dA tI a2 with
      | some x0, some x1, some x2 => some (.c (.int .i64 (kindN x0 n x1 x2)))
      | _, _, _ => none
    | _, _ => none
  heap := fun _ _ _ => none
def own_lv : LV := ⟨(false :: true :: true :: F2 (true :: F32 (F16 (F8 ([]))))), [12]⟩
abbrev bCn0 (t : ETrace) (v : Int) : AB := .cells 46 [.int .i64 (t.2.2.2.1.getD (Int.toNat v) tIns.dflt).1, .int .i64 (t.2.2.2.1.getD (Int.toNat v) tIns.dflt).2.1, .int .i64 (t.2.2.2.1.getD (Int.toNat v) tIns.dflt).2.2.1, .int .i64 (t.2.2.2.1.getD (Int.toNat v) tIns.dflt).2.2.2.1, .int .i64 (t.2.2.2.1.getD (Int.toNat v) tIns.dflt).2.2.2.2.1, .int .i64 (t.2.2.2.1.getD (Int.toNat v) tIns.dflt).2.2.2.2.2.1, .int .i64 (t.2.2.2.1.getD (Int.toNat v) tIns.dflt).2.2.2.2.2.2.1, .int .i64 (t.2.2.2.1.getD (Int.toNat v) tIns.dflt).2.2.2.2.2.2.2]
noncomputable def own_T (t : ETrace) (n : Nat) (v : Int) : Tree :=
  .need ((0 : Int) ≤ v ∧ (v : Int) < (t.2.2.2.1.length : Int)) <|
  .need ((Int.toNat v) < t.2.2.2.1.length) <|
  .ite (decide ((t.2.2.2.1.getD (Int.toNat v) tIns.dflt).1 = 2))
  (.ret (.c (.int .i64 (t.2.2.2.1.getD (Int.toNat v) tIns.dflt).2.2.2.2.2.2.1)) [.cells 29 (Ty.enc tTrace t), (bCn0 t v)])
  (.ite (decide ((t.2.2.2.1.getD (Int.toNat v) tIns.dflt).1 = 15))
   (.ret (.c (.int .i64 2)) [.cells 29 (Ty.enc tTrace t), (bCn0 t v)])
   (.ite (decide ((t.2.2.2.1.getD (Int.toNat v) tIns.dflt).1 = 16))
    (.ite (decide ((t.2.2.2.1.getD (Int.toNat v) tIns.dflt).1 = 16))
     (.ret (.c (.int .i64 5)) [.cells 29 (Ty.enc tTrace t), (bCn0 t v)])
     (.ite (decide ((t.2.2.2.1.getD (Int.toNat v) tIns.dflt).1 = 7))
      (.ite (decide ((t.2.2.2.1.getD (Int.toNat v) tIns.dflt).1 = 7))
       (.stop (rg (bodyOf Tryd.f47) 12) (.junk :: .c (.int .i64 v) :: .c (.ptr 0 0 0 0) :: J2 (.c (.ptr 1 0 0 0) :: J32 (J16 (J8 ([]))))) [.cells 29 (Ty.enc tTrace t), (bCn0 t v)])
       (.ret (.c (.int .i64 (-1))) [.cells 29 (Ty.enc tTrace t), (bCn0 t v)]))
      (.ite (decide ((t.2.2.2.1.getD (Int.toNat v) tIns.dflt).1 = 8))
       (.stop (rg (bodyOf Tryd.f47) 12) (.junk :: .c (.int .i64 v) :: .c (.ptr 0 0 0 0) :: J2 (.c (.ptr 1 0 0 0) :: J32 (J16 (J8 ([]))))) [.cells 29 (Ty.enc tTrace t), (bCn0 t v)])
       (.ret (.c (.int .i64 (-1))) [.cells 29 (Ty.enc tTrace t), (bCn0 t v)]))))
    (.ite (decide ((t.2.2.2.1.getD (Int.toNat v) tIns.dflt).1 = 18))
     (.ret (.c (.int .i64 5)) [.cells 29 (Ty.enc tTrace t), (bCn0 t v)])
     (.ite (decide ((t.2.2.2.1.getD (Int.toNat v) tIns.dflt).1 = 7))
      (.ite (decide ((t.2.2.2.1.getD (Int.toNat v) tIns.dflt).1 = 7))
       (.stop (rg (bodyOf Tryd.f47) 12) (.junk :: .c (.int .i64 v) :: .c (.ptr 0 0 0 0) :: J2 (.c (.ptr 1 0 0 0) :: J32 (J16 (J8 ([]))))) [.cells 29 (Ty.enc tTrace t), (bCn0 t v)])
       (.ret (.c (.int .i64 (-1))) [.cells 29 (Ty.enc tTrace t), (bCn0 t v)]))
      (.ite (decide ((t.2.2.2.1.getD (Int.toNat v) tIns.dflt).1 = 8))
       (.stop (rg (bodyOf Tryd.f47) 12) (.junk :: .c (.int .i64 v) :: .c (.ptr 0 0 0 0) :: J2 (.c (.ptr 1 0 0 0) :: J32 (J16 (J8 ([]))))) [.cells 29 (Ty.enc tTrace t), (bCn0 t v)])
       (.ret (.c (.int .i64 (-1))) [.cells 29 (Ty.enc tTrace t), (bCn0 t v)]))))))
theorem own_T_ok (t : ETrace) (n : Nat) (v : Int) : aRun Tryd.prog (oc24 n) Tryd.f47 own_lv 3000 [.code (bodyOf Tryd.f47)] ([.agg (tTrace.enc t), .c (.int .i64 v)] ++ List.replicate (Func.ntmps Tryd.f47 - 2) .junk) [] = own_T t n v := by kernel_rfl
noncomputable def own_r12_R (t : ETrace) (n : Nat) (v : Int) : Tree :=
  .ite (decide ((8 : Int) ≤ (t.2.2.2.1.getD (Int.toNat v) tIns.dflt).2.2.2.2.1))
  (.ite (decide ((t.2.2.2.1.getD (Int.toNat v) tIns.dflt).2.2.2.2.1 ≤ 10))
   (.ite (decide ((t.2.2.2.1.getD (Int.toNat v) tIns.dflt).1 = 7))
    (.ret (.c (.int .i64 1)) [.cells 29 (Ty.enc tTrace t), (bCn0 t v)])
    (.ite (decide ((t.2.2.2.1.getD (Int.toNat v) tIns.dflt).2.2.2.2.1 = 11))
     (.ite (decide ((t.2.2.2.1.getD (Int.toNat v) tIns.dflt).1 = 8))
      (.ret (.c (.int .i64 1)) [.cells 29 (Ty.enc tTrace t), (bCn0 t v)])
      (.call 21 [.agg (Ty.enc tTrace t), .c (.int .i64 (t.2.2.2.1.getD (Int.toNat v) tIns.dflt).2.1), .c (.int .i64 v)] false (.c (.int .i64 (kindN t n (t.2.2.2.1.getD (Int.toNat v) tIns.dflt).2.1 v))) <|
       .ite (decide (kindN t n (t.2.2.2.1.getD (Int.toNat v) tIns.dflt).2.1 v = 2))
       (.ret (.c (.int .i64 (kindN t n (t.2.2.2.1.getD (Int.toNat v) tIns.dflt).2.1 v))) [.cells 29 (Ty.enc tTrace t), (bCn0 t v)])
       (.ite (decide (kindN t n (t.2.2.2.1.getD (Int.toNat v) tIns.dflt).2.1 v = 3))
        (.ret (.c (.int .i64 (kindN t n (t.2.2.2.1.getD (Int.toNat v) tIns.dflt).2.1 v))) [.cells 29 (Ty.enc tTrace t), (bCn0 t v)])
        (.ret (.c (.int .i64 (-1))) [.cells 29 (Ty.enc tTrace t), (bCn0 t v)]))))
     (.call 21 [.agg (Ty.enc tTrace t), .c (.int .i64 (t.2.2.2.1.getD (Int.toNat v) tIns.dflt).2.1), .c (.int .i64 v)] false (.c (.int .i64 (kindN t n (t.2.2.2.1.getD (Int.toNat v) tIns.dflt).2.1 v))) <|
      .ite (decide (kindN t n (t.2.2.2.1.getD (Int.toNat v) tIns.dflt).2.1 v = 2))
      (.ret (.c (.int .i64 (kindN t n (t.2.2.2.1.getD (Int.toNat v) tIns.dflt).2.1 v))) [.cells 29 (Ty.enc tTrace t), (bCn0 t v)])
      (.ite (decide (kindN t n (t.2.2.2.1.getD (Int.toNat v) tIns.dflt).2.1 v = 3))
       (.ret (.c (.int .i64 (kindN t n (t.2.2.2.1.getD (Int.toNat v) tIns.dflt).2.1 v))) [.cells 29 (Ty.enc tTrace t), (bCn0 t v)])
       (.ret (.c (.int .i64 (-1))) [.cells 29 (Ty.enc tTrace t), (bCn0 t v)])))))
   (.ite (decide ((t.2.2.2.1.getD (Int.toNat v) tIns.dflt).2.2.2.2.1 = 11))
    (.ite (decide ((t.2.2.2.1.getD (Int.toNat v) tIns.dflt).1 = 8))
     (.ret (.c (.int .i64 1)) [.cells 29 (Ty.enc tTrace t), (bCn0 t v)])
     (.call 21 [.agg (Ty.enc tTrace t), .c (.int .i64 (t.2.2.2.1.getD (Int.toNat v) tIns.dflt).2.1), .c (.int .i64 v)] false (.c (.int .i64 (kindN t n (t.2.2.2.1.getD (Int.toNat v) tIns.dflt).2.1 v))) <|
      .ite (decide (kindN t n (t.2.2.2.1.getD (Int.toNat v) tIns.dflt).2.1 v = 2))
      (.ret (.c (.int .i64 (kindN t n (t.2.2.2.1.getD (Int.toNat v) tIns.dflt).2.1 v))) [.cells 29 (Ty.enc tTrace t), (bCn0 t v)])
      (.ite (decide (kindN t n (t.2.2.2.1.getD (Int.toNat v) tIns.dflt).2.1 v = 3))
       (.ret (.c (.int .i64 (kindN t n (t.2.2.2.1.getD (Int.toNat v) tIns.dflt).2.1 v))) [.cells 29 (Ty.enc tTrace t), (bCn0 t v)])
       (.ret (.c (.int .i64 (-1))) [.cells 29 (Ty.enc tTrace t), (bCn0 t v)]))))
    (.call 21 [.agg (Ty.enc tTrace t), .c (.int .i64 (t.2.2.2.1.getD (Int.toNat v) tIns.dflt).2.1), .c (.int .i64 v)] false (.c (.int .i64 (kindN t n (t.2.2.2.1.getD (Int.toNat v) tIns.dflt).2.1 v))) <|
     .ite (decide (kindN t n (t.2.2.2.1.getD (Int.toNat v) tIns.dflt).2.1 v = 2))
     (.ret (.c (.int .i64 (kindN t n (t.2.2.2.1.getD (Int.toNat v) tIns.dflt).2.1 v))) [.cells 29 (Ty.enc tTrace t), (bCn0 t v)])
     (.ite (decide (kindN t n (t.2.2.2.1.getD (Int.toNat v) tIns.dflt).2.1 v = 3))
      (.ret (.c (.int .i64 (kindN t n (t.2.2.2.1.getD (Int.toNat v) tIns.dflt).2.1 v))) [.cells 29 (Ty.enc tTrace t), (bCn0 t v)])
      (.ret (.c (.int .i64 (-1))) [.cells 29 (Ty.enc tTrace t), (bCn0 t v)])))))
  (.ite (decide ((t.2.2.2.1.getD (Int.toNat v) tIns.dflt).2.2.2.2.1 = 11))
   (.ite (decide ((t.2.2.2.1.getD (Int.toNat v) tIns.dflt).1 = 8))
    (.ret (.c (.int .i64 1)) [.cells 29 (Ty.enc tTrace t), (bCn0 t v)])
    (.call 21 [.agg (Ty.enc tTrace t), .c (.int .i64 (t.2.2.2.1.getD (Int.toNat v) tIns.dflt).2.1), .c (.int .i64 v)] false (.c (.int .i64 (kindN t n (t.2.2.2.1.getD (Int.toNat v) tIns.dflt).2.1 v))) <|
     .ite (decide (kindN t n (t.2.2.2.1.getD (Int.toNat v) tIns.dflt).2.1 v = 2))
     (.ret (.c (.int .i64 (kindN t n (t.2.2.2.1.getD (Int.toNat v) tIns.dflt).2.1 v))) [.cells 29 (Ty.enc tTrace t), (bCn0 t v)])
     (.ite (decide (kindN t n (t.2.2.2.1.getD (Int.toNat v) tIns.dflt).2.1 v = 3))
      (.ret (.c (.int .i64 (kindN t n (t.2.2.2.1.getD (Int.toNat v) tIns.dflt).2.1 v))) [.cells 29 (Ty.enc tTrace t), (bCn0 t v)])
      (.ret (.c (.int .i64 (-1))) [.cells 29 (Ty.enc tTrace t), (bCn0 t v)]))))
   (.call 21 [.agg (Ty.enc tTrace t), .c (.int .i64 (t.2.2.2.1.getD (Int.toNat v) tIns.dflt).2.1), .c (.int .i64 v)] false (.c (.int .i64 (kindN t n (t.2.2.2.1.getD (Int.toNat v) tIns.dflt).2.1 v))) <|
    .ite (decide (kindN t n (t.2.2.2.1.getD (Int.toNat v) tIns.dflt).2.1 v = 2))
    (.ret (.c (.int .i64 (kindN t n (t.2.2.2.1.getD (Int.toNat v) tIns.dflt).2.1 v))) [.cells 29 (Ty.enc tTrace t), (bCn0 t v)])
    (.ite (decide (kindN t n (t.2.2.2.1.getD (Int.toNat v) tIns.dflt).2.1 v = 3))
     (.ret (.c (.int .i64 (kindN t n (t.2.2.2.1.getD (Int.toNat v) tIns.dflt).2.1 v))) [.cells 29 (Ty.enc tTrace t), (bCn0 t v)])
     (.ret (.c (.int .i64 (-1))) [.cells 29 (Ty.enc tTrace t), (bCn0 t v)]))))
theorem own_r12_R_ok (t : ETrace) (n : Nat) (v : Int) : aRound Tryd.prog (oc24 n) Tryd.f47 own_lv 3000 (rg (bodyOf Tryd.f47) 12) (.junk :: .c (.int .i64 v) :: .c (.ptr 0 0 0 0) :: J2 (.c (.ptr 1 0 0 0) :: J32 (J16 (J8 ([]))))) [.cells 29 (Ty.enc tTrace t), (bCn0 t v)] = own_r12_R t n v := by kernel_rfl
theorem own_r12 (t : ETrace) (n : Nat) (v : Int) (hk : ∀ a : Int, AFun Tryd.prog 21 [.agg (Ty.enc tTrace t), .c (.int .i64 a), .c (.int .i64 v)] (.c (.int .i64 (kindN t n a v)))) (hv : 0 ≤ v ∧ v < (t.2.2.2.1.length : Int)) (hop : (t.2.2.2.1.getD (Int.toNat v) tIns.dflt).1 = 7 ∨ (t.2.2.2.1.getD (Int.toNat v) tIns.dflt).1 = 8) : Run Tryd.prog 47 (retQ Tryd.prog (.c (.int .i64 (ownK (fun b => kindN t n b v) (t.2.2.2.1.getD (Int.toNat v) tIns.dflt))))) (rg (bodyOf Tryd.f47) 12) (.junk :: .c (.int .i64 v) :: .c (.ptr 0 0 0 0) :: J2 (.c (.ptr 1 0 0 0) :: J32 (J16 (J8 ([]))))) [.cells 29 (Ty.enc tTrace t), (bCn0 t v)] :=
  Run.roundA (oc24 n) own_lv 3000 Tryd.func47 mixed (own_r12_R t n v) (own_r12_R_ok t n v) (by
    unfold own_r12_R
    refine g_iteD (fun h0 => ?_) (fun h0 => ?_)
    · refine g_iteD (fun h1 => ?_) (fun h1 => ?_)
      · refine g_iteD (fun h2 => ?_) (fun h2 => ?_)
        · exact g_reti (by simp only [ownK]; (repeat' split) <;> first | rfl | omega | (exfalso; omega) | (simp_all; done))
        · refine g_iteD (fun h3 => ?_) (fun h3 => ?_)
          · refine g_iteD (fun h4 => ?_) (fun h4 => ?_)
            · exact g_reti (by simp only [ownK]; (repeat' split) <;> first | rfl | omega | (exfalso; omega) | (simp_all; done))
            · refine g_call (hk (t.2.2.2.1.getD (Int.toNat v) tIns.dflt).2.1) (fun h => nomatch h) ?_
              refine g_iteD (fun h5 => ?_) (fun h5 => ?_)
              · exact g_reti (by simp only [ownK]; (repeat' split) <;> first | rfl | omega | (exfalso; omega) | (simp_all; done))
              · refine g_iteD (fun h6 => ?_) (fun h6 => ?_)
                · exact g_reti (by simp only [ownK]; (repeat' split) <;> first | rfl | omega | (exfalso; omega) | (simp_all; done))
                · exact g_reti (by simp only [ownK]; (repeat' split) <;> first | rfl | omega | (exfalso; omega) | (simp_all; done))
          · refine g_call (hk (t.2.2.2.1.getD (Int.toNat v) tIns.dflt).2.1) (fun h => nomatch h) ?_
            refine g_iteD (fun h4 => ?_) (fun h4 => ?_)
            · exact g_reti (by simp only [ownK]; (repeat' split) <;> first | rfl | omega | (exfalso; omega) | (simp_all; done))
            · refine g_iteD (fun h5 => ?_) (fun h5 => ?_)
              · exact g_reti (by simp only [ownK]; (repeat' split) <;> first | rfl | omega | (exfalso; omega) | (simp_all; done))
              · exact g_reti (by simp only [ownK]; (repeat' split) <;> first | rfl | omega | (exfalso; omega) | (simp_all; done))
      · refine g_iteD (fun h2 => ?_) (fun h2 => ?_)
        · refine g_iteD (fun h3 => ?_) (fun h3 => ?_)
          · exact g_reti (by simp only [ownK]; (repeat' split) <;> first | rfl | omega | (exfalso; omega) | (simp_all; done))
          · refine g_call (hk (t.2.2.2.1.getD (Int.toNat v) tIns.dflt).2.1) (fun h => nomatch h) ?_
            refine g_iteD (fun h4 => ?_) (fun h4 => ?_)
            · exact g_reti (by simp only [ownK]; (repeat' split) <;> first | rfl | omega | (exfalso; omega) | (simp_all; done))
            · refine g_iteD (fun h5 => ?_) (fun h5 => ?_)
              · exact g_reti (by simp only [ownK]; (repeat' split) <;> first | rfl | omega | (exfalso; omega) | (simp_all; done))
              · exact g_reti (by simp only [ownK]; (repeat' split) <;> first | rfl | omega | (exfalso; omega) | (simp_all; done))
        · refine g_call (hk (t.2.2.2.1.getD (Int.toNat v) tIns.dflt).2.1) (fun h => nomatch h) ?_
          refine g_iteD (fun h3 => ?_) (fun h3 => ?_)
          · exact g_reti (by simp only [ownK]; (repeat' split) <;> first | rfl | omega | (exfalso; omega) | (simp_all; done))
          · refine g_iteD (fun h4 => ?_) (fun h4 => ?_)
            · exact g_reti (by simp only [ownK]; (repeat' split) <;> first | rfl | omega | (exfalso; omega) | (simp_all; done))
            · exact g_reti (by simp only [ownK]; (repeat' split) <;> first | rfl | omega | (exfalso; omega) | (simp_all; done))
    · refine g_iteD (fun h1 => ?_) (fun h1 => ?_)
      · refine g_iteD (fun h2 => ?_) (fun h2 => ?_)
        · exact g_reti (by simp only [ownK]; (repeat' split) <;> first | rfl | omega | (exfalso; omega) | (simp_all; done))
        · refine g_call (hk (t.2.2.2.1.getD (Int.toNat v) tIns.dflt).2.1) (fun h => nomatch h) ?_
          refine g_iteD (fun h3 => ?_) (fun h3 => ?_)
          · exact g_reti (by simp only [ownK]; (repeat' split) <;> first | rfl | omega | (exfalso; omega) | (simp_all; done))
          · refine g_iteD (fun h4 => ?_) (fun h4 => ?_)
            · exact g_reti (by simp only [ownK]; (repeat' split) <;> first | rfl | omega | (exfalso; omega) | (simp_all; done))
            · exact g_reti (by simp only [ownK]; (repeat' split) <;> first | rfl | omega | (exfalso; omega) | (simp_all; done))
      · refine g_call (hk (t.2.2.2.1.getD (Int.toNat v) tIns.dflt).2.1) (fun h => nomatch h) ?_
        refine g_iteD (fun h2 => ?_) (fun h2 => ?_)
        · exact g_reti (by simp only [ownK]; (repeat' split) <;> first | rfl | omega | (exfalso; omega) | (simp_all; done))
        · refine g_iteD (fun h3 => ?_) (fun h3 => ?_)
          · exact g_reti (by simp only [ownK]; (repeat' split) <;> first | rfl | omega | (exfalso; omega) | (simp_all; done))
          · exact g_reti (by simp only [ownK]; (repeat' split) <;> first | rfl | omega | (exfalso; omega) | (simp_all; done))
    )
theorem own_fun (t : ETrace) (n : Nat) (v : Int) (hk : ∀ a : Int, AFun Tryd.prog 21 [.agg (Ty.enc tTrace t), .c (.int .i64 a), .c (.int .i64 v)] (.c (.int .i64 (kindN t n a v)))) (hv : 0 ≤ v ∧ v < (t.2.2.2.1.length : Int)) : AFun Tryd.prog 47 [.agg (tTrace.enc t), .c (.int .i64 v)] (.c (.int .i64 (ownK (fun b => kindN t n b v) (t.2.2.2.1.getD (Int.toNat v) tIns.dflt)))) :=
  AFun.of (oc24 n) own_lv 3000 Tryd.func47 mixed rfl (by decide) (Nat.le_of_ble_eq_true rfl) _ (own_T_ok t n v) fun hF => by
    unfold own_T
    refine g_need (by omega) ?_
    refine g_need (by omega) ?_
    refine g_iteD (fun h0 => ?_) (fun h0 => ?_)
    · exact g_reti (by simp only [ownK]; (repeat' split) <;> first | rfl | omega | (exfalso; omega) | (simp_all; done))
    · refine g_iteD (fun h1 => ?_) (fun h1 => ?_)
      · exact g_reti (by simp only [ownK]; (repeat' split) <;> first | rfl | omega | (exfalso; omega) | (simp_all; done))
      · refine g_iteD (fun h2 => ?_) (fun h2 => ?_)
        · refine g_iteD (fun h3 => ?_) (fun h3 => ?_)
          · exact g_reti (by simp only [ownK]; (repeat' split) <;> first | rfl | omega | (exfalso; omega) | (simp_all; done))
          · refine g_iteD (fun h4 => ?_) (fun h4 => ?_)
            · refine g_iteD (fun h5 => ?_) (fun h5 => ?_)
              · refine g_stop (RunN.keep [0, 1] (false :: true :: true :: F2 (true :: F32 (F16 (F8 ([]))))) n0 (by decide) rfl rfl ?_)
                exact own_r12 t n v hk hv (by exact .inl (by assumption))
              · exact g_reti (by simp only [ownK]; (repeat' split) <;> first | rfl | omega | (exfalso; omega) | (simp_all; done))
            · refine g_iteD (fun h5 => ?_) (fun h5 => ?_)
              · refine g_stop (RunN.keep [0, 1] (false :: true :: true :: F2 (true :: F32 (F16 (F8 ([]))))) n0 (by decide) rfl rfl ?_)
                exact own_r12 t n v hk hv (by exact .inr (by assumption))
              · exact g_reti (by simp only [ownK]; (repeat' split) <;> first | rfl | omega | (exfalso; omega) | (simp_all; done))
        · refine g_iteD (fun h3 => ?_) (fun h3 => ?_)
          · exact g_reti (by simp only [ownK]; (repeat' split) <;> first | rfl | omega | (exfalso; omega) | (simp_all; done))
          · refine g_iteD (fun h4 => ?_) (fun h4 => ?_)
            · refine g_iteD (fun h5 => ?_) (fun h5 => ?_)
              · refine g_stop (RunN.keep [0, 1] (false :: true :: true :: F2 (true :: F32 (F16 (F8 ([]))))) n0 (by decide) rfl rfl ?_)
                exact own_r12 t n v hk hv (by exact .inl (by assumption))
              · exact g_reti (by simp only [ownK]; (repeat' split) <;> first | rfl | omega | (exfalso; omega) | (simp_all; done))
            · refine g_iteD (fun h5 => ?_) (fun h5 => ?_)
              · refine g_stop (RunN.keep [0, 1] (false :: true :: true :: F2 (true :: F32 (F16 (F8 ([]))))) n0 (by decide) rfl rfl ?_)
                exact own_r12 t n v hk hv (by exact .inr (by assumption))
              · exact g_reti (by simp only [ownK]; (repeat' split) <;> first | rfl | omega | (exfalso; omega) | (simp_all; done))

noncomputable def oc25 (n : Nat) : Orc where
  pure := fun f args => match f, args with
    | 19, [a0] => match dA tI a0 with
      | some x0 => some (.c (.bool (tellF x0)))
      | _ => none
    | 47, [a0, a1] => match dA tTrace a0, dA tI a1 with
      | some x0, some x1 => some (.c (.int .i64 (ownK (fun b => kindN x0 n b x1) (x0.2.2.2.1.getD (Int.toNat x1) tIns.dflt))))
      | _, _ => none
    | _, _ => none
  heap := fun _ _ _ => none
def kind_lv : LV := ⟨(false :: true :: true :: true :: F4 (true :: F32 (F32 (false :: [])))), []⟩
noncomputable def kind_T (t : ETrace) (n : Nat) (v : Int) (a : Int) : Tree :=
  .ite (decide (v < 0))
  (.ret (.c (.int .i64 (-1))) [.cells 29 (Ty.enc tTrace t)])
  (.ite (decide (a ≤ v))
   (.ret (.c (.int .i64 (-1))) [.cells 29 (Ty.enc tTrace t)])
   (.ite (decide ((t.2.2.2.1.length : Int) < a))
    (.ret (.c (.int .i64 (-1))) [.cells 29 (Ty.enc tTrace t)])
    (.need ((0 : Int) ≤ v ∧ (v : Int) < (t.2.2.2.1.length : Int)) <|
     .need ((Int.toNat v) < t.2.2.2.1.length) <|
     .call 19 [.c (.int .i64 (t.2.2.2.1.getD (Int.toNat v) tIns.dflt).1)] false (.c (.bool (tellF (t.2.2.2.1.getD (Int.toNat v) tIns.dflt).1))) <|
     .ite ((!(tellF (t.2.2.2.1.getD (Int.toNat v) tIns.dflt).1)))
     (.ret (.c (.int .i64 (-1))) [.cells 29 (Ty.enc tTrace t)])
     (.call 47 [.agg (Ty.enc tTrace t), .c (.int .i64 v)] false (.c (.int .i64 (ownK (fun b => kindN t n b v) (t.2.2.2.1.getD (Int.toNat v) tIns.dflt)))) <|
      .ite (decide ((0 : Int) ≤ ownK (fun b => kindN t n b v) (t.2.2.2.1.getD (Int.toNat v) tIns.dflt)))
      (.ret (.c (.int .i64 (ownK (fun b => kindN t n b v) (t.2.2.2.1.getD (Int.toNat v) tIns.dflt)))) [.cells 29 (Ty.enc tTrace t)])
      (.need (inR .i64 (v + 1)) <|
       .stop (lp (bodyOf Tryd.f21) 0) (.junk :: .c (.int .i64 v) :: .c (.int .i64 a) :: .c (.ptr 0 0 0 0) :: J4 (.c (.int .i64 (v + 1)) :: J32 (J32 (.junk :: [])))) [.cells 29 (Ty.enc tTrace t)])))))
theorem kind_T_ok (t : ETrace) (n : Nat) (v : Int) (a : Int) : aRun Tryd.prog (oc25 n) Tryd.f21 kind_lv 3000 [.code (bodyOf Tryd.f21)] ([.agg (tTrace.enc t), .c (.int .i64 v), .c (.int .i64 a)] ++ List.replicate (Func.ntmps Tryd.f21 - 3) .junk) [] = kind_T t n v a := by kernel_rfl
abbrev bCn1 (t : ETrace) (i : Int) : AB := .cells 46 [.int .i64 (t.2.2.2.1.getD (Int.toNat i) tIns.dflt).1, .int .i64 (t.2.2.2.1.getD (Int.toNat i) tIns.dflt).2.1, .int .i64 (t.2.2.2.1.getD (Int.toNat i) tIns.dflt).2.2.1, .int .i64 (t.2.2.2.1.getD (Int.toNat i) tIns.dflt).2.2.2.1, .int .i64 (t.2.2.2.1.getD (Int.toNat i) tIns.dflt).2.2.2.2.1, .int .i64 (t.2.2.2.1.getD (Int.toNat i) tIns.dflt).2.2.2.2.2.1, .int .i64 (t.2.2.2.1.getD (Int.toNat i) tIns.dflt).2.2.2.2.2.2.1, .int .i64 (t.2.2.2.1.getD (Int.toNat i) tIns.dflt).2.2.2.2.2.2.2]
noncomputable def kind_l0_R (t : ETrace) (n : Nat) (v : Int) (a : Int) (i : Int) : Tree :=
  .ite (decide (i < a))
  (.need ((0 : Int) ≤ i ∧ (i : Int) < (t.2.2.2.1.length : Int)) <|
   .need ((Int.toNat i) < t.2.2.2.1.length) <|
   .ite ((!(decide ((t.2.2.2.1.getD (Int.toNat i) tIns.dflt).2.1 = v))))
   (.need (inR .i64 (i + 1)) <|
    .stop (lp (bodyOf Tryd.f21) 0) (.junk :: .c (.int .i64 v) :: .c (.int .i64 a) :: .c (.ptr 0 0 0 0) :: J4 (.c (.int .i64 (i + 1)) :: J32 (J32 (.junk :: [])))) [.cells 29 (Ty.enc tTrace t), (bCn1 t i)])
   (.ite (decide ((t.2.2.2.1.getD (Int.toNat i) tIns.dflt).1 = 4))
    (.ret (.c (.int .i64 (t.2.2.2.1.getD (Int.toNat i) tIns.dflt).2.2.2.2.1)) [.cells 29 (Ty.enc tTrace t), (bCn1 t i)])
    (.ite (decide ((t.2.2.2.1.getD (Int.toNat i) tIns.dflt).1 = 6))
     (.ret (.c (.int .i64 (t.2.2.2.1.getD (Int.toNat i) tIns.dflt).2.2.2.2.2.2.1)) [.cells 29 (Ty.enc tTrace t), (bCn1 t i)])
     (.ite (decide ((t.2.2.2.1.getD (Int.toNat i) tIns.dflt).1 = 9))
      (.ret (.c (.int .i64 5)) [.cells 29 (Ty.enc tTrace t), (bCn1 t i)])
      (.need (inR .i64 (i + 1)) <|
       .stop (lp (bodyOf Tryd.f21) 0) (.junk :: .c (.int .i64 v) :: .c (.int .i64 a) :: .c (.ptr 0 0 0 0) :: J4 (.c (.int .i64 (i + 1)) :: J32 (J32 (.junk :: [])))) [.cells 29 (Ty.enc tTrace t), (bCn1 t i)])))))
  (.ret (.c (.int .i64 (-1))) [.cells 29 (Ty.enc tTrace t)])
theorem kind_l0_R_ok (t : ETrace) (n : Nat) (v : Int) (a : Int) (i : Int) : aRound Tryd.prog (oc25 n) Tryd.f21 kind_lv 3000 (lp (bodyOf Tryd.f21) 0) (.junk :: .c (.int .i64 v) :: .c (.int .i64 a) :: .c (.ptr 0 0 0 0) :: J4 (.c (.int .i64 i) :: J32 (J32 (.junk :: [])))) [.cells 29 (Ty.enc tTrace t)] = kind_l0_R t n v a i := by kernel_rfl
theorem kind_l0 (t : ETrace) (n : Nat) (v : Int) (a : Int) (i : Int) (hi : 0 ≤ i ∧ a ≤ (t.2.2.2.1.length : Int)) (hl : t.2.2.2.1.length ≤ 9223372036854775807) : Run Tryd.prog 21 (retQ Tryd.prog (.c (.int .i64 (scanK v ((t.2.2.2.1.take a.toNat).drop i.toNat))))) (lp (bodyOf Tryd.f21) 0) (.junk :: .c (.int .i64 v) :: .c (.int .i64 a) :: .c (.ptr 0 0 0 0) :: J4 (.c (.int .i64 i) :: J32 (J32 (.junk :: [])))) [.cells 29 (Ty.enc tTrace t)] :=
  Run.roundA (oc25 n) kind_lv 3000 Tryd.func21 mixed (kind_l0_R t n v a i) (kind_l0_R_ok t n v a i) (by
    unfold kind_l0_R
    refine g_iteD (fun h0 => ?_) (fun h0 => ?_)
    · refine g_need (by omega) ?_
      refine g_need (by omega) ?_
      refine g_iteND (fun h1 => ?_) (fun h1 => ?_)
      · refine g_need (i64_iff.2 (by omega)) ?_
        refine g_stop (RunN.keep [0] (false :: true :: true :: true :: F4 (true :: F32 (F32 (false :: [])))) n0 (by decide) rfl rfl ?_)
        have ht := kind_l0 t n v a (i + 1) (by omega) hl; rw [show (t.2.2.2.1.take a.toNat).drop i.toNat = t.2.2.2.1.getD i.toNat tIns.dflt :: (t.2.2.2.1.take a.toNat).drop (i + 1).toNat from by rw [dropCons (α := EIns) (Ty.dflt tIns) (by rw [List.length_take]; omega : i.toNat < (t.2.2.2.1.take a.toNat).length), show i.toNat + 1 = (i + 1).toNat by omega]; congr 1; simp only [List.getD_eq_getElem?_getD, List.getElem?_take]; rw [if_pos (by omega)], scanK]; simp only [h0, h1, if_true, if_false]; exact ht
      · refine g_iteD (fun h2 => ?_) (fun h2 => ?_)
        · exact g_reti (by rw [show (t.2.2.2.1.take a.toNat).drop i.toNat = t.2.2.2.1.getD i.toNat tIns.dflt :: (t.2.2.2.1.take a.toNat).drop (i + 1).toNat from by rw [dropCons (α := EIns) (Ty.dflt tIns) (by rw [List.length_take]; omega : i.toNat < (t.2.2.2.1.take a.toNat).length), show i.toNat + 1 = (i + 1).toNat by omega]; congr 1; simp only [List.getD_eq_getElem?_getD, List.getElem?_take]; rw [if_pos (by omega)], scanK]; simp only [h0, h1, h2, if_true, if_false, Int.reduceEq, reduceIte])
        · refine g_iteD (fun h3 => ?_) (fun h3 => ?_)
          · exact g_reti (by rw [show (t.2.2.2.1.take a.toNat).drop i.toNat = t.2.2.2.1.getD i.toNat tIns.dflt :: (t.2.2.2.1.take a.toNat).drop (i + 1).toNat from by rw [dropCons (α := EIns) (Ty.dflt tIns) (by rw [List.length_take]; omega : i.toNat < (t.2.2.2.1.take a.toNat).length), show i.toNat + 1 = (i + 1).toNat by omega]; congr 1; simp only [List.getD_eq_getElem?_getD, List.getElem?_take]; rw [if_pos (by omega)], scanK]; simp only [h0, h1, h2, h3, if_true, if_false, Int.reduceEq, reduceIte])
          · refine g_iteD (fun h4 => ?_) (fun h4 => ?_)
            · exact g_reti (by rw [show (t.2.2.2.1.take a.toNat).drop i.toNat = t.2.2.2.1.getD i.toNat tIns.dflt :: (t.2.2.2.1.take a.toNat).drop (i + 1).toNat from by rw [dropCons (α := EIns) (Ty.dflt tIns) (by rw [List.length_take]; omega : i.toNat < (t.2.2.2.1.take a.toNat).length), show i.toNat + 1 = (i + 1).toNat by omega]; congr 1; simp only [List.getD_eq_getElem?_getD, List.getElem?_take]; rw [if_pos (by omega)], scanK]; simp only [h0, h1, h2, h3, h4, if_true, if_false, Int.reduceEq, reduceIte])
            · refine g_need (i64_iff.2 (by omega)) ?_
              refine g_stop (RunN.keep [0] (false :: true :: true :: true :: F4 (true :: F32 (F32 (false :: [])))) n0 (by decide) rfl rfl ?_)
              have ht := kind_l0 t n v a (i + 1) (by omega) hl; rw [show (t.2.2.2.1.take a.toNat).drop i.toNat = t.2.2.2.1.getD i.toNat tIns.dflt :: (t.2.2.2.1.take a.toNat).drop (i + 1).toNat from by rw [dropCons (α := EIns) (Ty.dflt tIns) (by rw [List.length_take]; omega : i.toNat < (t.2.2.2.1.take a.toNat).length), show i.toNat + 1 = (i + 1).toNat by omega]; congr 1; simp only [List.getD_eq_getElem?_getD, List.getElem?_take]; rw [if_pos (by omega)], scanK]; simp only [h0, h1, h2, h3, h4, if_true, if_false]; exact ht
    · exact g_reti (by rw [List.drop_eq_nil_of_le (by rw [List.length_take]; omega)]; rfl)
    )
  termination_by (a - i).toNat
  decreasing_by all_goals omega
theorem kind_step (t : ETrace) (n : Nat) (v : Int) (a : Int) (hk : 0 ≤ v → v < a → a ≤ (t.2.2.2.1.length : Int) → ∀ b : Int, AFun Tryd.prog 21 [.agg (Ty.enc tTrace t), .c (.int .i64 b), .c (.int .i64 v)] (.c (.int .i64 (kindN t n b v)))) : AFun Tryd.prog 21 [.agg (tTrace.enc t), .c (.int .i64 v), .c (.int .i64 a)] (.c (.int .i64 (kindN t (n + 1) v a))) :=
  AFun.of (oc25 n) kind_lv 3000 Tryd.func21 mixed rfl (by decide) (Nat.le_of_ble_eq_true rfl) _ (kind_T_ok t n v a) fun hF => by
    have hl := hF.agg.1.2.2.2.1.1
    unfold kind_T
    refine g_iteD (fun h0 => ?_) (fun h0 => ?_)
    · exact g_reti (by simp only [kindN, h0, if_true, if_false])
    · refine g_iteD (fun h1 => ?_) (fun h1 => ?_)
      · exact g_reti (by simp only [kindN, h0, h1, if_true, if_false])
      · refine g_iteD (fun h2 => ?_) (fun h2 => ?_)
        · exact g_reti (by simp only [kindN, h0, h1, h2, if_true, if_false])
        · refine g_need (by omega) ?_
          refine g_need (by omega) ?_
          refine g_call (tells_fun (t.2.2.2.1.getD (Int.toNat v) tIns.dflt).1) (fun h => nomatch h) ?_
          refine g_iteN (fun h3 => ?_) (fun h3 => ?_)
          · exact g_reti (by simp only [kindN, h0, h1, h2, h3, if_true, if_false])
          · refine g_call (own_fun t n v (hk (by omega) (by omega) (by omega)) (by omega)) (fun h => nomatch h) ?_
            refine g_iteD (fun h4 => ?_) (fun h4 => ?_)
            · exact g_reti (by simp only [kindN, h0, h1, h2, h3, h4, if_true, if_false, Bool.false_eq_true, reduceCtorEq])
            · refine g_need (i64_iff.2 (by omega)) ?_
              refine g_stop (RunN.keep [0] (false :: true :: true :: true :: F4 (true :: F32 (F32 (false :: [])))) n0 (by decide) rfl rfl ?_)
              have ht := kind_l0 t n v a (v + 1) (by omega) hl; simp only [kindN, h0, h1, h2, h3, h4, if_true, if_false, Bool.true_eq_false, Bool.false_eq_true]; exact ht

theorem kindN_more (t : ETrace) : ∀ (n m : Nat) (v a : Int), a.toNat < n → a.toNat < m → kindN t n v a = kindN t m v a
  | 0, _, _, _, h, _ => absurd h (Nat.not_lt_zero _)
  | _ + 1, 0, _, _, _, h => absurd h (Nat.not_lt_zero _)
  | n + 1, m + 1, v, a, h, h' => by
    by_cases h1 : v < 0
    · simp only [kindN, h1, if_true]
    · by_cases h2 : a ≤ v
      · simp only [kindN, h1, h2, if_true, if_false]
      · have e : (fun b => kindN t n b v) = (fun b => kindN t m b v) := funext fun b => kindN_more t n m b v (by omega) (by omega)
        simp only [kindN, e]
def kindF (t : ETrace) (v a : Int) : Int := kindN t (a.toNat + 1) v a
theorem kind_all (t : ETrace) : ∀ (n : Nat) (v a : Int), a.toNat < n → AFun Tryd.prog 21 [.agg (Ty.enc tTrace t), .c (.int .i64 v), .c (.int .i64 a)] (.c (.int .i64 (kindN t n v a)))
  | 0, _, _, h => absurd h (Nat.not_lt_zero _)
  | n + 1, v, a, h => kind_step t n v a fun h0 h1 _ b => kind_all t n b v (by omega)
theorem kind_fun (t : ETrace) (v a : Int) : AFun Tryd.prog 21 [.agg (Ty.enc tTrace t), .c (.int .i64 v), .c (.int .i64 a)] (.c (.int .i64 (kindF t v a))) := kind_all t _ v a (by omega)
end Go.Proofs.YtefkifdhjabdiaaDoor
namespace Go.Proofs.YtefkifdhjabdiaaDoor
set_option linter.unusedVariables false
set_option linter.unusedSimpArgs false
set_option maxRecDepth 100000
noncomputable def oc5 : Orc where
  pure := fun f args => match f, args with
    | 84, [a0, a1, a2] => match dA tChk a0, dA (.slice tI) a1, dA tI a2 with
      | some x0, some x1, some x2 => some (.c (.bool (valuesF x0 x1 x2)))
      | _, _, _ => none
    | 86, [a0, a1, a2] => match dA tChk a0, dA tI a1, dA tI a2 with
      | some x0, some x1, some x2 => some (.c (.bool (valueF x0 x1 x2)))
      | _, _, _ => none
    | _, _ => none
  heap := fun _ _ _ => none
def makeF (c : EChk) (m : EMake) (at_ : Int) : Bool :=
  if (!(valueF c m.1 at_)) = true then false
  else if (!(decide ((c.2.2.2.2.1.getD (Int.toNat m.1) tIns.dflt).1 = 18))) = true then false
  else if m.2.1 < 1 then false
  else if (3 : Int) < m.2.1 then false
  else if m.2.2.1 < 0 then false
  else if (0 : Int) < m.2.2.1 then if (!(decide (m.2.1 = 1))) = true then false
    else if (m.2.2.2.length : Int) ≤ 100 then valuesF c m.2.2.2 at_
    else false
  else if (m.2.2.2.length : Int) ≤ 100 then valuesF c m.2.2.2 at_
  else false
def make_lv : LV := ⟨([]), []⟩
noncomputable def make_T (c : EChk) (m : EMake) (at_ : Int) : Tree :=
  .call 86 [.agg (Ty.enc tChk c), .c (.int .i64 m.1), .c (.int .i64 at_)] false (.c (.bool (valueF c m.1 at_))) <|
  .ite ((!(valueF c m.1 at_)))
  (.ret (.c (.lit false)) [.cells 86 (Ty.enc tChk c), .cells 118 (Ty.enc tMake m)])
  (.need ((0 : Int) ≤ m.1 ∧ (m.1 : Int) < (c.2.2.2.2.1.length : Int)) <|
   .need ((Int.toNat m.1) < c.2.2.2.2.1.length) <|
   .ite ((!(decide ((c.2.2.2.2.1.getD (Int.toNat m.1) tIns.dflt).1 = 18))))
   (.ret (.c (.lit false)) [.cells 86 (Ty.enc tChk c), .cells 118 (Ty.enc tMake m)])
   (.ite (decide (m.2.1 < 1))
    (.ret (.c (.lit false)) [.cells 86 (Ty.enc tChk c), .cells 118 (Ty.enc tMake m)])
    (.ite (decide ((3 : Int) < m.2.1))
     (.ret (.c (.lit false)) [.cells 86 (Ty.enc tChk c), .cells 118 (Ty.enc tMake m)])
     (.ite (decide (m.2.2.1 < 0))
      (.ret (.c (.lit false)) [.cells 86 (Ty.enc tChk c), .cells 118 (Ty.enc tMake m)])
      (.ite (decide ((0 : Int) < m.2.2.1))
       (.ite ((!(decide (m.2.1 = 1))))
        (.ret (.c (.lit false)) [.cells 86 (Ty.enc tChk c), .cells 118 (Ty.enc tMake m)])
        (.ite (decide ((m.2.2.2.length : Int) ≤ 100))
         (.call 84 [.agg (Ty.enc tChk c), .c (.ro tI m.2.2.2), .c (.int .i64 at_)] false (.c (.bool (valuesF c m.2.2.2 at_))) <|
          .ret (.c (.bool (valuesF c m.2.2.2 at_))) [.cells 86 (Ty.enc tChk c), .cells 118 (Ty.enc tMake m)])
         (.ret (.c (.lit false)) [.cells 86 (Ty.enc tChk c), .cells 118 (Ty.enc tMake m)])))
       (.ite (decide ((m.2.2.2.length : Int) ≤ 100))
        (.call 84 [.agg (Ty.enc tChk c), .c (.ro tI m.2.2.2), .c (.int .i64 at_)] false (.c (.bool (valuesF c m.2.2.2 at_))) <|
         .ret (.c (.bool (valuesF c m.2.2.2 at_))) [.cells 86 (Ty.enc tChk c), .cells 118 (Ty.enc tMake m)])
        (.ret (.c (.lit false)) [.cells 86 (Ty.enc tChk c), .cells 118 (Ty.enc tMake m)])))))))
theorem make_T_ok (c : EChk) (m : EMake) (at_ : Int) : aRun Tryd.prog oc5 Tryd.f87 make_lv 3000 [.code (bodyOf Tryd.f87)] ([.agg (tChk.enc c), .agg (tMake.enc m), .c (.int .i64 at_)] ++ List.replicate (Func.ntmps Tryd.f87 - 3) .junk) [] = make_T c m at_ := by kernel_rfl
theorem valueF_len {c : EChk} {v at_ : Int} (h : valueF c v at_ = true) : 0 ≤ v ∧ v < at_ ∧ v < (c.2.2.2.2.1.length : Int) ∧ tellF (c.2.2.2.2.1.getD v.toNat tIns.dflt).1 = true := by
  unfold valueF at h
  split at h
  · split at h
    · split at h
      · exact ⟨by assumption, by assumption, by assumption, h⟩
      · cases h
    · cases h
  · cases h
theorem make_fun (c : EChk) (m : EMake) (at_ : Int) : AFun Tryd.prog 87 [.agg (tChk.enc c), .agg (tMake.enc m), .c (.int .i64 at_)] (.c (.bool (makeF c m at_))) :=
  AFun.of oc5 make_lv 3000 Tryd.func87 mixed rfl (by decide) (Nat.le_of_ble_eq_true rfl) _ (make_T_ok c m at_) fun hF => by
    unfold make_T
    refine g_call (value_fun c m.1 at_) (fun h => nomatch h) ?_
    refine g_iteN (fun h0 => ?_) (fun h0 => ?_)
    · exact g_retl (by simp only [makeF, h0, if_true, if_false]; try rfl)
    · refine g_need (by have := valueF_len h0; omega) ?_
      refine g_need (by have := valueF_len h0; omega) ?_
      refine g_iteND (fun h1 => ?_) (fun h1 => ?_)
      · exact g_retl (by simp only [makeF, h0, h1, if_true, if_false]; try rfl)
      · refine g_iteD (fun h2 => ?_) (fun h2 => ?_)
        · exact g_retl (by simp only [makeF, h0, h1, h2, if_true, if_false]; try rfl)
        · refine g_iteD (fun h3 => ?_) (fun h3 => ?_)
          · exact g_retl (by simp only [makeF, h0, h1, h2, h3, if_true, if_false]; try rfl)
          · refine g_iteD (fun h4 => ?_) (fun h4 => ?_)
            · exact g_retl (by simp only [makeF, h0, h1, h2, h3, h4, if_true, if_false]; try rfl)
            · refine g_iteD (fun h5 => ?_) (fun h5 => ?_)
              · refine g_iteND (fun h6 => ?_) (fun h6 => ?_)
                · exact g_retl (by simp only [makeF, h0, h1, h2, h3, h4, h5, h6, if_true, if_false]; try rfl)
                · refine g_iteD (fun h7 => ?_) (fun h7 => ?_)
                  · refine g_call (values_fun c m.2.2.2 at_) (fun h => nomatch h) ?_
                    exact g_retb (by simp only [makeF, h0, h1, h2, h3, h4, h5, h6, h7, if_true, if_false]; try rfl)
                  · exact g_retl (by simp only [makeF, h0, h1, h2, h3, h4, h5, h6, h7, if_true, if_false]; try rfl)
              · refine g_iteD (fun h6 => ?_) (fun h6 => ?_)
                · refine g_call (values_fun c m.2.2.2 at_) (fun h => nomatch h) ?_
                  exact g_retb (by simp only [makeF, h0, h1, h2, h3, h4, h5, h6, if_true, if_false]; try rfl)
                · exact g_retl (by simp only [makeF, h0, h1, h2, h3, h4, h5, h6, if_true, if_false]; try rfl)

def bareF (x : EExit) : Bool :=
  if x.1 = 0 then if x.2.1 = 0 then if (x.2.2.1.length : Int) = 0 then decide ((x.2.2.2.length : Int) = 0)
      else false
    else false
  else false
def bare_lv : LV := ⟨([]), []⟩
noncomputable def bare_T (x : EExit) : Tree :=
  .ite (decide (x.1 = 0))
  (.ite (decide (x.2.1 = 0))
   (.ite (decide ((x.2.2.1.length : Int) = 0))
    (.ret (.c (.bool (decide ((x.2.2.2.length : Int) = 0)))) [.cells 27 (Ty.enc tExit x)])
    (.ret (.c (.lit false)) [.cells 27 (Ty.enc tExit x)]))
   (.ret (.c (.lit false)) [.cells 27 (Ty.enc tExit x)]))
  (.ret (.c (.lit false)) [.cells 27 (Ty.enc tExit x)])
theorem bare_T_ok (x : EExit) : aRun Tryd.prog oc0 Tryd.f45 bare_lv 3000 [.code (bodyOf Tryd.f45)] ([.agg (tExit.enc x)] ++ List.replicate (Func.ntmps Tryd.f45 - 1) .junk) [] = bare_T x := by kernel_rfl
theorem bare_fun (x : EExit) : AFun Tryd.prog 45 [.agg (tExit.enc x)] (.c (.bool (bareF x))) :=
  AFun.of oc0 bare_lv 3000 Tryd.func45 mixed rfl (by decide) (Nat.le_of_ble_eq_true rfl) _ (bare_T_ok x) fun hF => by
    unfold bare_T
    refine g_iteD (fun h0 => ?_) (fun h0 => ?_)
    · refine g_iteD (fun h1 => ?_) (fun h1 => ?_)
      · refine g_iteD (fun h2 => ?_) (fun h2 => ?_)
        · exact g_retb (by simp only [bareF, h0, h1, h2, if_true, if_false]; try rfl)
        · exact g_retl (by simp only [bareF, h0, h1, h2, if_true, if_false]; try rfl)
      · exact g_retl (by simp only [bareF, h0, h1, if_true, if_false]; try rfl)
    · exact g_retl (by simp only [bareF, h0, if_true, if_false]; try rfl)

def setsF (c : EChk) (at_ : Int) : Int → List ESet → Bool
  | _, [] => true
  | last, s :: r => if s.1 ≤ last then false else if c.1.2.1 ≤ s.1 then false else if valueF c s.2 at_ = false then false else setsF c at_ s.1 r
def makesF (c : EChk) (at_ : Int) : Int → List EMake → Bool
  | _, [] => true
  | last, m :: r => if m.1 ≤ last then false else if makeF c m at_ = false then false else makesF c at_ m.1 r
def rightXF (c : EChk) (x : EExit) (at_ : Int) : Bool :=
  if x.1 < 0 then false else if (c.1.2.2.2.2.length : Int) ≤ x.1 then false else if x.2.1 < 0 then false else if 200 < x.2.1 then false else setsF c at_ (-1) x.2.2.1 && makesF c at_ (-1) x.2.2.2
noncomputable def oc6 : Orc where
  pure := fun f args => match f, args with
    | 86, [a0, a1, a2] => match dA tChk a0, dA tI a1, dA tI a2 with
      | some x0, some x1, some x2 => some (.c (.bool (valueF x0 x1 x2)))
      | _, _, _ => none
    | 87, [a0, a1, a2] => match dA tChk a0, dA tMake a1, dA tI a2 with
      | some x0, some x1, some x2 => some (.c (.bool (makeF x0 x1 x2)))
      | _, _, _ => none
    | _, _ => none
  heap := fun _ _ _ => none
def rightX_lv : LV := ⟨(F2 (true :: true :: true :: F2 (true :: F16 (F8 (F2 (false :: true :: true :: true :: F16 (F8 (F2 (false :: true :: true :: true :: F16 (false :: [])))))))))), []⟩
noncomputable def rightX_T (c : EChk) (x : EExit) (at_ : Int) : Tree :=
  .ite (decide (x.1 < 0))
  (.ret (.c (.lit false)) [.cells 86 (Ty.enc tChk c), .cells 27 (Ty.enc tExit x)])
  (.ite (decide ((c.1.2.2.2.2.length : Int) ≤ x.1))
   (.ret (.c (.lit false)) [.cells 86 (Ty.enc tChk c), .cells 27 (Ty.enc tExit x)])
   (.ite (decide (x.2.1 < 0))
    (.ret (.c (.lit false)) [.cells 86 (Ty.enc tChk c), .cells 27 (Ty.enc tExit x)])
    (.ite (decide ((200 : Int) < x.2.1))
     (.ret (.c (.lit false)) [.cells 86 (Ty.enc tChk c), .cells 27 (Ty.enc tExit x)])
     (.stop (lp (bodyOf Tryd.f46) 0) (J2 (.c (.int .i64 at_) :: .c (.ptr 0 0 0 0) :: .c (.ptr 1 0 0 0) :: J2 (.c (.int .i64 (-1)) :: J16 (J8 (J2 (.junk :: .c (.ro tVal x.2.2.1) :: .c (.int .i64 (x.2.2.1.length : Int)) :: .c (.int .i64 0) :: J32 (J8 (J4 (J2 (.junk :: [])))))))))) [.cells 86 (Ty.enc tChk c), .cells 27 (Ty.enc tExit x)]))))
theorem rightX_T_ok (c : EChk) (x : EExit) (at_ : Int) : aRun Tryd.prog oc6 Tryd.f46 rightX_lv 3000 [.code (bodyOf Tryd.f46)] ([.agg (tChk.enc c), .agg (tExit.enc x), .c (.int .i64 at_)] ++ List.replicate (Func.ntmps Tryd.f46 - 3) .junk) [] = rightX_T c x at_ := by kernel_rfl
noncomputable def rightX_l0_R (c : EChk) (x : EExit) (at_ : Int) (last : Int) (i : Nat) : Tree :=
  .ite (decide (((i : Nat) : Int) < (x.2.2.1.length : Int)))
  (.need ((0 : Int) ≤ ((i : Nat) : Int) ∧ (((i : Nat) : Int) : Int) < (x.2.2.1.length : Int)) <|
   .need (i < x.2.2.1.length) <|
   .ite (decide ((x.2.2.1.getD i tVal.dflt).1 ≤ last))
   (.ret (.c (.lit false)) [.cells 86 (Ty.enc tChk c), .cells 27 (Ty.enc tExit x), .cells 116 [.int .i64 (x.2.2.1.getD i tVal.dflt).1, .int .i64 (x.2.2.1.getD i tVal.dflt).2]])
   (.ite (decide (c.1.2.1 ≤ (x.2.2.1.getD i tVal.dflt).1))
    (.ret (.c (.lit false)) [.cells 86 (Ty.enc tChk c), .cells 27 (Ty.enc tExit x), .cells 116 [.int .i64 (x.2.2.1.getD i tVal.dflt).1, .int .i64 (x.2.2.1.getD i tVal.dflt).2]])
    (.call 86 [.agg (Ty.enc tChk c), .c (.int .i64 (x.2.2.1.getD i tVal.dflt).2), .c (.int .i64 at_)] false (.c (.bool (valueF c (x.2.2.1.getD i tVal.dflt).2 at_))) <|
     .ite ((!(valueF c (x.2.2.1.getD i tVal.dflt).2 at_)))
     (.ret (.c (.lit false)) [.cells 86 (Ty.enc tChk c), .cells 27 (Ty.enc tExit x), .cells 116 [.int .i64 (x.2.2.1.getD i tVal.dflt).1, .int .i64 (x.2.2.1.getD i tVal.dflt).2]])
     (.need (inR .i64 (((i : Nat) : Int) + 1)) <|
      .stop (lp (bodyOf Tryd.f46) 0) (J2 (.c (.int .i64 at_) :: .c (.ptr 0 0 0 0) :: .c (.ptr 1 0 0 0) :: J2 (.c (.int .i64 (x.2.2.1.getD i tVal.dflt).1) :: J16 (J8 (J2 (.junk :: .c (.ro tVal x.2.2.1) :: .c (.int .i64 (x.2.2.1.length : Int)) :: .c (.int .i64 (((i : Nat) : Int) + 1)) :: J32 (J8 (J4 (J2 (.junk :: [])))))))))) [.cells 86 (Ty.enc tChk c), .cells 27 (Ty.enc tExit x), .cells 116 [.int .i64 (x.2.2.1.getD i tVal.dflt).1, .int .i64 (x.2.2.1.getD i tVal.dflt).2]]))))
  (.stop (lp (bodyOf Tryd.f46) 1) (J2 (.c (.int .i64 at_) :: .c (.ptr 0 0 0 0) :: .c (.ptr 1 0 0 0) :: J2 (.c (.int .i64 (-1)) :: J16 (J8 (J2 (.junk :: .c (.ro tVal x.2.2.1) :: .c (.int .i64 (x.2.2.1.length : Int)) :: .c (.int .i64 ((i : Nat) : Int)) :: J16 (J8 (J2 (.junk :: .c (.ro tMake x.2.2.2) :: .c (.int .i64 (x.2.2.2.length : Int)) :: .c (.int .i64 0) :: J16 (.junk :: [])))))))))) [.cells 86 (Ty.enc tChk c), .cells 27 (Ty.enc tExit x)])
theorem rightX_l0_R_ok (c : EChk) (x : EExit) (at_ : Int) (last : Int) (i : Nat) : aRound Tryd.prog oc6 Tryd.f46 rightX_lv 3000 (lp (bodyOf Tryd.f46) 0) (J2 (.c (.int .i64 at_) :: .c (.ptr 0 0 0 0) :: .c (.ptr 1 0 0 0) :: J2 (.c (.int .i64 last) :: J16 (J8 (J2 (.junk :: .c (.ro tVal x.2.2.1) :: .c (.int .i64 (x.2.2.1.length : Int)) :: .c (.int .i64 ((i : Nat) : Int)) :: J32 (J8 (J4 (J2 (.junk :: [])))))))))) [.cells 86 (Ty.enc tChk c), .cells 27 (Ty.enc tExit x)] = rightX_l0_R c x at_ last i := by kernel_rfl
noncomputable def rightX_l1_R (c : EChk) (x : EExit) (at_ : Int) (last : Int) (i : Nat) : Tree :=
  .ite (decide (((i : Nat) : Int) < (x.2.2.2.length : Int)))
  (.need ((0 : Int) ≤ ((i : Nat) : Int) ∧ (((i : Nat) : Int) : Int) < (x.2.2.2.length : Int)) <|
   .need (i < x.2.2.2.length) <|
   .ite (decide ((x.2.2.2.getD i tMake.dflt).1 ≤ last))
   (.ret (.c (.lit false)) [.cells 86 (Ty.enc tChk c), .cells 118 [.int .i64 (x.2.2.2.getD i tMake.dflt).1, .int .i64 (x.2.2.2.getD i tMake.dflt).2.1, .int .i64 (x.2.2.2.getD i tMake.dflt).2.2.1, .ro tI (x.2.2.2.getD i tMake.dflt).2.2.2]])
   (.call 87 [.agg (Ty.enc tChk c), .agg [.int .i64 (x.2.2.2.getD i tMake.dflt).1, .int .i64 (x.2.2.2.getD i tMake.dflt).2.1, .int .i64 (x.2.2.2.getD i tMake.dflt).2.2.1, .ro tI (x.2.2.2.getD i tMake.dflt).2.2.2], .c (.int .i64 at_)] false (.c (.bool (makeF c (x.2.2.2.getD i tMake.dflt) at_))) <|
    .ite ((!(makeF c (x.2.2.2.getD i tMake.dflt) at_)))
    (.ret (.c (.lit false)) [.cells 86 (Ty.enc tChk c), .cells 118 [.int .i64 (x.2.2.2.getD i tMake.dflt).1, .int .i64 (x.2.2.2.getD i tMake.dflt).2.1, .int .i64 (x.2.2.2.getD i tMake.dflt).2.2.1, .ro tI (x.2.2.2.getD i tMake.dflt).2.2.2]])
    (.need (inR .i64 (((i : Nat) : Int) + 1)) <|
     .stop (lp (bodyOf Tryd.f46) 1) (J2 (.c (.int .i64 at_) :: .c (.ptr 0 0 0 0) :: J2 (.junk :: .c (.int .i64 (x.2.2.2.getD i tMake.dflt).1) :: J32 (J16 (J8 (.junk :: .c (.ro tMake x.2.2.2) :: .c (.int .i64 (x.2.2.2.length : Int)) :: .c (.int .i64 (((i : Nat) : Int) + 1)) :: J16 (.junk :: []))))))) [.cells 86 (Ty.enc tChk c), .cells 118 [.int .i64 (x.2.2.2.getD i tMake.dflt).1, .int .i64 (x.2.2.2.getD i tMake.dflt).2.1, .int .i64 (x.2.2.2.getD i tMake.dflt).2.2.1, .ro tI (x.2.2.2.getD i tMake.dflt).2.2.2]])))
  (.ret (.c (.lit true)) [.cells 86 (Ty.enc tChk c)])
theorem rightX_l1_R_ok (c : EChk) (x : EExit) (at_ : Int) (last : Int) (i : Nat) : aRound Tryd.prog oc6 Tryd.f46 rightX_lv 3000 (lp (bodyOf Tryd.f46) 1) (J2 (.c (.int .i64 at_) :: .c (.ptr 0 0 0 0) :: J2 (.junk :: .c (.int .i64 last) :: J32 (J16 (J8 (.junk :: .c (.ro tMake x.2.2.2) :: .c (.int .i64 (x.2.2.2.length : Int)) :: .c (.int .i64 ((i : Nat) : Int)) :: J16 (.junk :: []))))))) [.cells 86 (Ty.enc tChk c)] = rightX_l1_R c x at_ last i := by kernel_rfl
theorem rightX_l1 (c : EChk) (x : EExit) (at_ : Int) (last : Int) (i : Nat) (hl : x.2.2.2.length ≤ 9223372036854775807) : Run Tryd.prog 46 (retQ Tryd.prog (.c (.bool (makesF c at_ last (x.2.2.2.drop i))))) (lp (bodyOf Tryd.f46) 1) (J2 (.c (.int .i64 at_) :: .c (.ptr 0 0 0 0) :: J2 (.junk :: .c (.int .i64 last) :: J32 (J16 (J8 (.junk :: .c (.ro tMake x.2.2.2) :: .c (.int .i64 (x.2.2.2.length : Int)) :: .c (.int .i64 ((i : Nat) : Int)) :: J16 (.junk :: []))))))) [.cells 86 (Ty.enc tChk c)] :=
  Run.roundA oc6 rightX_lv 3000 Tryd.func46 mixed (rightX_l1_R c x at_ last i) (rightX_l1_R_ok c x at_ last i) (by
    unfold rightX_l1_R
    refine g_iteD (fun h0 => ?_) (fun h0 => ?_)
    · refine g_need (by omega) ?_
      refine g_need (by omega) ?_
      refine g_iteD (fun h1 => ?_) (fun h1 => ?_)
      · exact g_retl (by rw [dropCons (α := EMake) (Ty.dflt tMake) (by omega)]; simp only [makesF, h0, h1, if_true, if_false])
      · refine g_call (make_fun c (x.2.2.2.getD i tMake.dflt) at_) (fun h => nomatch h) ?_
        refine g_iteN (fun h2 => ?_) (fun h2 => ?_)
        · exact g_retl (by rw [dropCons (α := EMake) (Ty.dflt tMake) (by omega)]; simp only [makesF, h0, h1, h2, if_true, if_false])
        · refine g_need (by rw [i64_iff]; omega) ?_
          refine g_stop (RunN.keep [0] (F2 (true :: true :: F2 (false :: true :: F32 (F16 (F8 (false :: true :: true :: true :: F16 (false :: []))))))) n0 (by decide) rfl rfl ?_)
          have := rightX_l1 c x at_ (x.2.2.2.getD i tMake.dflt).1 (i + 1) hl; rw [dropCons (α := EMake) (Ty.dflt tMake) (by omega)]; simp only [makesF, h0, h1, h2, if_true, if_false]; exact this
    · exact g_retl (by rw [List.drop_eq_nil_of_le (by omega)]; rfl)
    )
  termination_by x.2.2.2.length - i
  decreasing_by all_goals omega
theorem rightX_l0 (c : EChk) (x : EExit) (at_ : Int) (last : Int) (i : Nat) (hl : x.2.2.1.length ≤ 9223372036854775807) (hl2 : x.2.2.2.length ≤ 9223372036854775807) : Run Tryd.prog 46 (retQ Tryd.prog (.c (.bool (setsF c at_ last (x.2.2.1.drop i) && makesF c at_ (-1) x.2.2.2)))) (lp (bodyOf Tryd.f46) 0) (J2 (.c (.int .i64 at_) :: .c (.ptr 0 0 0 0) :: .c (.ptr 1 0 0 0) :: J2 (.c (.int .i64 last) :: J16 (J8 (J2 (.junk :: .c (.ro tVal x.2.2.1) :: .c (.int .i64 (x.2.2.1.length : Int)) :: .c (.int .i64 ((i : Nat) : Int)) :: J32 (J8 (J4 (J2 (.junk :: [])))))))))) [.cells 86 (Ty.enc tChk c), .cells 27 (Ty.enc tExit x)] :=
  Run.roundA oc6 rightX_lv 3000 Tryd.func46 mixed (rightX_l0_R c x at_ last i) (rightX_l0_R_ok c x at_ last i) (by
    unfold rightX_l0_R
    refine g_iteD (fun h0 => ?_) (fun h0 => ?_)
    · refine g_need (by omega) ?_
      refine g_need (by omega) ?_
      refine g_iteD (fun h1 => ?_) (fun h1 => ?_)
      · exact g_retl (by rw [dropCons (α := ESet) (Ty.dflt tSet) (by omega)]; simp only [setsF, h0, h1, if_true, if_false, Bool.false_and])
      · refine g_iteD (fun h2 => ?_) (fun h2 => ?_)
        · exact g_retl (by rw [dropCons (α := ESet) (Ty.dflt tSet) (by omega)]; simp only [setsF, h0, h1, h2, if_true, if_false, Bool.false_and])
        · refine g_call (value_fun c (x.2.2.1.getD i tVal.dflt).2 at_) (fun h => nomatch h) ?_
          refine g_iteN (fun h3 => ?_) (fun h3 => ?_)
          · exact g_retl (by rw [dropCons (α := ESet) (Ty.dflt tSet) (by omega)]; simp only [setsF, h0, h1, h2, h3, if_true, if_false, Bool.false_and])
          · refine g_need (by rw [i64_iff]; omega) ?_
            refine g_stop (RunN.keep [0, 1] (F2 (true :: true :: true :: F2 (true :: F16 (F8 (F2 (false :: true :: true :: true :: F32 (F8 (F4 (F2 (false :: [])))))))))) n0 (by decide) rfl rfl ?_)
            have := rightX_l0 c x at_ (x.2.2.1.getD i tVal.dflt).1 (i + 1) hl hl2; rw [dropCons (α := ESet) (Ty.dflt tSet) (by omega)]; simp only [setsF, h0, h1, h2, h3, if_true, if_false]; exact this
    · refine g_stop (RunN.keep [0] (F2 (true :: true :: F2 (false :: true :: F32 (F16 (F8 (false :: true :: true :: true :: F16 (false :: []))))))) n0 (by decide) rfl rfl ?_)
      have := rightX_l1 c x at_ (-1) 0 hl2; rw [List.drop_eq_nil_of_le (by omega)]; simp only [setsF, Bool.true_and]; exact this
    )
  termination_by x.2.2.1.length - i
  decreasing_by all_goals omega
theorem rightX_fun (c : EChk) (x : EExit) (at_ : Int) : AFun Tryd.prog 46 [.agg (tChk.enc c), .agg (tExit.enc x), .c (.int .i64 at_)] (.c (.bool (rightXF c x at_))) :=
  AFun.of oc6 rightX_lv 3000 Tryd.func46 mixed rfl (by decide) (Nat.le_of_ble_eq_true rfl) _ (rightX_T_ok c x at_) fun hF => by
    have hx := hF.agg.2.agg.1
    unfold rightX_T
    refine g_iteD (fun h0 => ?_) (fun h0 => ?_)
    · exact g_retl (by simp only [rightXF, h0, if_true, if_false])
    · refine g_iteD (fun h1 => ?_) (fun h1 => ?_)
      · exact g_retl (by simp only [rightXF, h0, h1, if_true, if_false])
      · refine g_iteD (fun h2 => ?_) (fun h2 => ?_)
        · exact g_retl (by simp only [rightXF, h0, h1, h2, if_true, if_false])
        · refine g_iteD (fun h3 => ?_) (fun h3 => ?_)
          · exact g_retl (by simp only [rightXF, h0, h1, h2, h3, if_true, if_false])
          · refine g_stop (RunN.keep [0, 1] (F2 (true :: true :: true :: F2 (true :: F16 (F8 (F2 (false :: true :: true :: true :: F32 (F8 (F4 (F2 (false :: [])))))))))) n0 (by decide) rfl rfl ?_)
            have := rightX_l0 c x at_ (-1) 0 hx.2.2.1.1 hx.2.2.2.1; simp only [rightXF, h0, h1, h2, h3, if_true, if_false]; exact this

end Go.Proofs.YtefkifdhjabdiaaDoor
namespace Go.Proofs.YtefkifdhjabdiaaDoor
set_option linter.unusedVariables false
set_option linter.unusedSimpArgs false
set_option maxRecDepth 100000
noncomputable def oc7 : Orc where
  pure := fun f args => match f, args with
    | 46, [a0, a1, a2] => match dA tChk a0, dA tExit a1, dA tI a2 with
      | some x0, some x1, some x2 => some (.c (.bool (rightXF x0 x1 x2)))
      | _, _, _ => none
    | 84, [a0, a1, a2] => match dA tChk a0, dA (.slice tI) a1, dA tI a2 with
      | some x0, some x1, some x2 => some (.c (.bool (valuesF x0 x1 x2)))
      | _, _, _ => none
    | 85, [a0] => match dA tVal a0 with
      | some x0 => some (.c (.bool (rightVF x0)))
      | _ => none
    | _, _ => none
  heap := fun _ _ _ => none
def shF (x : EIns) (k : Int) : Bool := if k = 1 then (if x.1 = 19 then true else if x.1 = 9 then decide (x.2.2.2.2.1 = 1) else false) else false
def okV (sh : Bool) (v : Int) : Bool := if sh = true then decide (0 ≤ v) else decide (v = -1)
def restF (x : EIns) (k : Int) : Bool := (decide (0 < k) || okV (shF x 0) x.2.1) && ((decide (1 < k) || okV (shF x 1) x.2.2.1) && (decide (2 < k) || okV (shF x 2) x.2.2.2.1))
theorem restF_ge {x : EIns} {k : Int} (h : 3 ≤ k) : restF x k = true := by
  have h0 : 0 < k := by omega
  have h1 : 1 < k := by omega
  have h2 : 2 < k := by omega
  simp [restF, h0, h1, h2]
theorem restF_step {x : EIns} {k : Int} (h : 0 ≤ k) (h' : k < 3) : restF x k = (okV (shF x k) ([x.2.1, x.2.2.1, x.2.2.2.1].getD k.toNat 0) && restF x (k + 1)) := by
  rcases (show k = 0 ∨ k = 1 ∨ k = 2 by omega) with rfl | rfl | rfl
  · simp [restF]
  · simp [restF]
  · simp [restF]
def kOk (f : EForm) (x : EIns) : Bool := if f.2.2.2.1 = true then rightVF x.2.2.2.2.2.2 else (decide (x.2.2.2.2.2.2.1 = 0) && (decide (x.2.2.2.2.2.2.2 = 0) && true))
def exitOk (c : EChk) (f : EForm) (x : EIns) (at_ : Int) : Bool :=
  if f.2.2.2.2.2 = 0 then decide (x.2.2.2.2.2.1 = -1) else if f.2.2.2.2.2 = 1 then (if x.2.2.2.2.2.1 = -1 then true else if 0 ≤ x.2.2.2.2.2.1 then (if x.2.2.2.2.2.1 < (c.2.2.2.2.2.1.length : Int) then rightXF c (c.2.2.2.2.2.1.getD (Int.toNat x.2.2.2.2.2.1) tExit.dflt) at_ else false) else false)
  else if 0 ≤ x.2.2.2.2.2.1 then (if x.2.2.2.2.2.1 < (c.2.2.2.2.2.1.length : Int) then rightXF c (c.2.2.2.2.2.1.getD (Int.toNat x.2.2.2.2.2.1) tExit.dflt) at_ else false) else false
def refOk (x : EIns) : Bool := if x.1 = 2 then (if x.2.2.2.2.2.2.1 = 5 then false else true) else true
def tail2F (c : EChk) (f : EForm) (x : EIns) (at_ : Int) : Bool := if kOk f x = true then (if refOk x = true then exitOk c f x at_ else false) else false
def regOk (c : EChk) (x : EIns) : Bool := if x.1 = 1 then (if c.1.2.1 ≤ x.2.2.2.2.1 then false else true) else true
def tailF (c : EChk) (f : EForm) (x : EIns) (at_ : Int) : Bool :=
  if x.2.2.2.2.1 < f.2.1 then false else if f.2.2.1 < x.2.2.2.2.1 then false else if regOk c x = true then tail2F c f x at_ else false
def formedF (c : EChk) (f : EForm) (x : EIns) (at_ : Int) : Bool := valuesF c ([x.2.1, x.2.2.1, x.2.2.2.1].take f.1.toNat) at_ && (restF x f.1 && tailF c f x at_)
def formed_lv : LV := ⟨(F2 (false :: true :: true :: true :: true :: F2 (true :: true :: true :: F32 (F32 (F32 (F32 (F16 (F8 ([]))))))))), [8, 10, 12, 14]⟩
noncomputable def formed_T (c : EChk) (f : EForm) (x : EIns) (at_ : Int) : Tree :=
  .need (([0, 0, 0]).length = 3) <|
  .need ((0 : Int) ≤ f.1 ∧ (f.1 : Int) ≤ ((3 : Nat) : Int) ∧ 3 ≤ ([x.2.1, x.2.2.1, x.2.2.2.1]).length) <|
  .need ((Int.toNat f.1) ≤ ([x.2.1, x.2.2.1, x.2.2.2.1]).length) <|
  .call 84 [.agg (Ty.enc tChk c), .c (.ro tI (([x.2.1, x.2.2.1, x.2.2.2.1]).take (Int.toNat f.1))), .c (.int .i64 at_)] true (.c (.bool (valuesF c (([x.2.1, x.2.2.1, x.2.2.2.1]).take (Int.toNat f.1)) at_))) <|
  .ite ((!(valuesF c (([x.2.1, x.2.2.1, x.2.2.2.1]).take (Int.toNat f.1)) at_)))
  (.ret (.c (.lit false)) [.cells 86 (Ty.enc tChk c), .cells 88 (Ty.enc tForm f), .cells 46 (Ty.enc tIns x), .vec 93 tI ([x.2.1, x.2.2.1, x.2.2.2.1])])
  (.stop (lp (bodyOf Tryd.f44) 0) (J2 (.junk :: .c (.int .i64 at_) :: .c (.ptr 0 0 0 0) :: .c (.ptr 1 0 0 0) :: .c (.ptr 2 0 0 0) :: J2 (.c (.ptr 3 0 0 0) :: .c (.int .i64 f.1) :: J32 (J32 (J32 (J32 (J16 (J8 (.junk :: []))))))))) [.cells 86 (Ty.enc tChk c), .cells 88 (Ty.enc tForm f), .cells 46 (Ty.enc tIns x), .vec 93 tI ([x.2.1, x.2.2.1, x.2.2.2.1])])
theorem formed_T_ok (c : EChk) (f : EForm) (x : EIns) (at_ : Int) : aRun Tryd.prog oc7 Tryd.f44 formed_lv 3000 [.code (bodyOf Tryd.f44)] ([.agg (tChk.enc c), .agg (tForm.enc f), .agg (tIns.enc x), .c (.int .i64 at_)] ++ List.replicate (Func.ntmps Tryd.f44 - 4) .junk) [] = formed_T c f x at_ := by kernel_rfl
noncomputable def formed_r14_R (c : EChk) (f : EForm) (x : EIns) (at_ : Int) : Tree :=
  .ite (decide (f.2.2.2.2.2 = 0))
  (.ret (.c (.bool (decide (x.2.2.2.2.2.1 = (-1))))) [.cells 86 (Ty.enc tChk c), .cells 88 (Ty.enc tForm f), .cells 46 (Ty.enc tIns x)])
  (.ite (decide (f.2.2.2.2.2 = 1))
   (.ite (decide (x.2.2.2.2.2.1 = (-1)))
    (.ret (.c (.bool (decide (x.2.2.2.2.2.1 = (-1))))) [.cells 86 (Ty.enc tChk c), .cells 88 (Ty.enc tForm f), .cells 46 (Ty.enc tIns x)])
    (.ite (decide ((0 : Int) ≤ x.2.2.2.2.2.1))
     (.ite (decide (x.2.2.2.2.2.1 < (c.2.2.2.2.2.1.length : Int)))
      (.need ((0 : Int) ≤ x.2.2.2.2.2.1 ∧ (x.2.2.2.2.2.1 : Int) < (c.2.2.2.2.2.1.length : Int)) <|
       .need ((Int.toNat x.2.2.2.2.2.1) < c.2.2.2.2.2.1.length) <|
       .call 46 [.agg (Ty.enc tChk c), .agg [.int .i64 (c.2.2.2.2.2.1.getD (Int.toNat x.2.2.2.2.2.1) tExit.dflt).1, .int .i64 (c.2.2.2.2.2.1.getD (Int.toNat x.2.2.2.2.2.1) tExit.dflt).2.1, .ro tVal (c.2.2.2.2.2.1.getD (Int.toNat x.2.2.2.2.2.1) tExit.dflt).2.2.1, .ro tMake (c.2.2.2.2.2.1.getD (Int.toNat x.2.2.2.2.2.1) tExit.dflt).2.2.2], .c (.int .i64 at_)] false (.c (.bool (rightXF c (c.2.2.2.2.2.1.getD (Int.toNat x.2.2.2.2.2.1) tExit.dflt) at_))) <|
       .ret (.c (.bool (rightXF c (c.2.2.2.2.2.1.getD (Int.toNat x.2.2.2.2.2.1) tExit.dflt) at_))) [.cells 86 (Ty.enc tChk c), .cells 88 (Ty.enc tForm f), .cells 46 (Ty.enc tIns x)])
      (.ret (.c (.lit false)) [.cells 86 (Ty.enc tChk c), .cells 88 (Ty.enc tForm f), .cells 46 (Ty.enc tIns x)]))
     (.ret (.c (.lit false)) [.cells 86 (Ty.enc tChk c), .cells 88 (Ty.enc tForm f), .cells 46 (Ty.enc tIns x)])))
   (.ite (decide ((0 : Int) ≤ x.2.2.2.2.2.1))
    (.ite (decide (x.2.2.2.2.2.1 < (c.2.2.2.2.2.1.length : Int)))
     (.need ((0 : Int) ≤ x.2.2.2.2.2.1 ∧ (x.2.2.2.2.2.1 : Int) < (c.2.2.2.2.2.1.length : Int)) <|
      .need ((Int.toNat x.2.2.2.2.2.1) < c.2.2.2.2.2.1.length) <|
      .call 46 [.agg (Ty.enc tChk c), .agg [.int .i64 (c.2.2.2.2.2.1.getD (Int.toNat x.2.2.2.2.2.1) tExit.dflt).1, .int .i64 (c.2.2.2.2.2.1.getD (Int.toNat x.2.2.2.2.2.1) tExit.dflt).2.1, .ro tVal (c.2.2.2.2.2.1.getD (Int.toNat x.2.2.2.2.2.1) tExit.dflt).2.2.1, .ro tMake (c.2.2.2.2.2.1.getD (Int.toNat x.2.2.2.2.2.1) tExit.dflt).2.2.2], .c (.int .i64 at_)] false (.c (.bool (rightXF c (c.2.2.2.2.2.1.getD (Int.toNat x.2.2.2.2.2.1) tExit.dflt) at_))) <|
      .ret (.c (.bool (rightXF c (c.2.2.2.2.2.1.getD (Int.toNat x.2.2.2.2.2.1) tExit.dflt) at_))) [.cells 86 (Ty.enc tChk c), .cells 88 (Ty.enc tForm f), .cells 46 (Ty.enc tIns x)])
     (.ret (.c (.lit false)) [.cells 86 (Ty.enc tChk c), .cells 88 (Ty.enc tForm f), .cells 46 (Ty.enc tIns x)]))
    (.ret (.c (.lit false)) [.cells 86 (Ty.enc tChk c), .cells 88 (Ty.enc tForm f), .cells 46 (Ty.enc tIns x)])))
abbrev bCd2 (at_ : Int) : List AV := (J2 (.junk :: .c (.int .i64 at_) :: .c (.ptr 0 0 0 0) :: .c (.ptr 1 0 0 0) :: .c (.ptr 2 0 0 0) :: J32 (J32 (J32 (J32 (J16 (J8 (J4 (.junk :: [])))))))))
theorem formed_r14_R_ok (c : EChk) (f : EForm) (x : EIns) (at_ : Int) : aRound Tryd.prog oc7 Tryd.f44 formed_lv 3000 (rg (bodyOf Tryd.f44) 14) (bCd2 at_) [.cells 86 (Ty.enc tChk c), .cells 88 (Ty.enc tForm f), .cells 46 (Ty.enc tIns x)] = formed_r14_R c f x at_ := by kernel_rfl
noncomputable def formed_r12_R (c : EChk) (f : EForm) (x : EIns) (at_ : Int) : Tree :=
  .ite ((!f.2.2.2.1))
  (.ite ((!(decide (x.2.2.2.2.2.2.1 = 0) && (decide (x.2.2.2.2.2.2.2 = 0) && true))))
   (.ret (.c (.lit false)) [.cells 86 (Ty.enc tChk c), .cells 88 (Ty.enc tForm f), .cells 46 (Ty.enc tIns x)])
   (.ite (f.2.2.2.1)
    (.call 85 [.agg [.int .i64 x.2.2.2.2.2.2.1, .int .i64 x.2.2.2.2.2.2.2]] false (.c (.bool (rightVF x.2.2.2.2.2.2))) <|
     .ite ((!(rightVF x.2.2.2.2.2.2)))
     (.ret (.c (.lit false)) [.cells 86 (Ty.enc tChk c), .cells 88 (Ty.enc tForm f), .cells 46 (Ty.enc tIns x)])
     (.ite (decide (x.1 = 2))
      (.ite (decide (x.2.2.2.2.2.2.1 = 5))
       (.ret (.c (.lit false)) [.cells 86 (Ty.enc tChk c), .cells 88 (Ty.enc tForm f), .cells 46 (Ty.enc tIns x)])
       (.stop (rg (bodyOf Tryd.f44) 14) (bCd2 at_) [.cells 86 (Ty.enc tChk c), .cells 88 (Ty.enc tForm f), .cells 46 (Ty.enc tIns x)]))
      (.stop (rg (bodyOf Tryd.f44) 14) (bCd2 at_) [.cells 86 (Ty.enc tChk c), .cells 88 (Ty.enc tForm f), .cells 46 (Ty.enc tIns x)])))
    (.ite (decide (x.1 = 2))
     (.ite (decide (x.2.2.2.2.2.2.1 = 5))
      (.ret (.c (.lit false)) [.cells 86 (Ty.enc tChk c), .cells 88 (Ty.enc tForm f), .cells 46 (Ty.enc tIns x)])
      (.stop (rg (bodyOf Tryd.f44) 14) (bCd2 at_) [.cells 86 (Ty.enc tChk c), .cells 88 (Ty.enc tForm f), .cells 46 (Ty.enc tIns x)]))
     (.stop (rg (bodyOf Tryd.f44) 14) (bCd2 at_) [.cells 86 (Ty.enc tChk c), .cells 88 (Ty.enc tForm f), .cells 46 (Ty.enc tIns x)]))))
  (.ite (f.2.2.2.1)
   (.call 85 [.agg [.int .i64 x.2.2.2.2.2.2.1, .int .i64 x.2.2.2.2.2.2.2]] false (.c (.bool (rightVF x.2.2.2.2.2.2))) <|
    .ite ((!(rightVF x.2.2.2.2.2.2)))
    (.ret (.c (.lit false)) [.cells 86 (Ty.enc tChk c), .cells 88 (Ty.enc tForm f), .cells 46 (Ty.enc tIns x)])
    (.ite (decide (x.1 = 2))
     (.ite (decide (x.2.2.2.2.2.2.1 = 5))
      (.ret (.c (.lit false)) [.cells 86 (Ty.enc tChk c), .cells 88 (Ty.enc tForm f), .cells 46 (Ty.enc tIns x)])
      (.stop (rg (bodyOf Tryd.f44) 14) (bCd2 at_) [.cells 86 (Ty.enc tChk c), .cells 88 (Ty.enc tForm f), .cells 46 (Ty.enc tIns x)]))
     (.stop (rg (bodyOf Tryd.f44) 14) (bCd2 at_) [.cells 86 (Ty.enc tChk c), .cells 88 (Ty.enc tForm f), .cells 46 (Ty.enc tIns x)])))
   (.ite (decide (x.1 = 2))
    (.ite (decide (x.2.2.2.2.2.2.1 = 5))
     (.ret (.c (.lit false)) [.cells 86 (Ty.enc tChk c), .cells 88 (Ty.enc tForm f), .cells 46 (Ty.enc tIns x)])
     (.stop (rg (bodyOf Tryd.f44) 14) (bCd2 at_) [.cells 86 (Ty.enc tChk c), .cells 88 (Ty.enc tForm f), .cells 46 (Ty.enc tIns x)]))
    (.stop (rg (bodyOf Tryd.f44) 14) (bCd2 at_) [.cells 86 (Ty.enc tChk c), .cells 88 (Ty.enc tForm f), .cells 46 (Ty.enc tIns x)])))
theorem formed_r12_R_ok (c : EChk) (f : EForm) (x : EIns) (at_ : Int) : aRound Tryd.prog oc7 Tryd.f44 formed_lv 3000 (rg (bodyOf Tryd.f44) 12) (bCd2 at_) [.cells 86 (Ty.enc tChk c), .cells 88 (Ty.enc tForm f), .cells 46 (Ty.enc tIns x)] = formed_r12_R c f x at_ := by kernel_rfl
noncomputable def formed_r10_R (c : EChk) (f : EForm) (x : EIns) (at_ : Int) : Tree :=
  .ite (decide (x.2.2.2.2.1 < f.2.1))
  (.ret (.c (.lit false)) [.cells 86 (Ty.enc tChk c), .cells 88 (Ty.enc tForm f), .cells 46 (Ty.enc tIns x)])
  (.ite (decide (f.2.2.1 < x.2.2.2.2.1))
   (.ret (.c (.lit false)) [.cells 86 (Ty.enc tChk c), .cells 88 (Ty.enc tForm f), .cells 46 (Ty.enc tIns x)])
   (.ite (decide (x.1 = 1))
    (.ite (decide (c.1.2.1 ≤ x.2.2.2.2.1))
     (.ret (.c (.lit false)) [.cells 86 (Ty.enc tChk c), .cells 88 (Ty.enc tForm f), .cells 46 (Ty.enc tIns x)])
     (.stop (rg (bodyOf Tryd.f44) 12) (bCd2 at_) [.cells 86 (Ty.enc tChk c), .cells 88 (Ty.enc tForm f), .cells 46 (Ty.enc tIns x)]))
    (.stop (rg (bodyOf Tryd.f44) 12) (bCd2 at_) [.cells 86 (Ty.enc tChk c), .cells 88 (Ty.enc tForm f), .cells 46 (Ty.enc tIns x)])))
theorem formed_r10_R_ok (c : EChk) (f : EForm) (x : EIns) (at_ : Int) : aRound Tryd.prog oc7 Tryd.f44 formed_lv 3000 (rg (bodyOf Tryd.f44) 10) (bCd2 at_) [.cells 86 (Ty.enc tChk c), .cells 88 (Ty.enc tForm f), .cells 46 (Ty.enc tIns x)] = formed_r10_R c f x at_ := by kernel_rfl
abbrev bCd0 (at_ : Int) (k : Int) (sh : Bool) : List AV := (J2 (.junk :: .c (.int .i64 at_) :: .c (.ptr 0 0 0 0) :: .c (.ptr 1 0 0 0) :: .c (.ptr 2 0 0 0) :: J2 (.c (.ptr 3 0 0 0) :: .c (.int .i64 (k + 1)) :: .c (.bool sh) :: J32 (J32 (J32 (J32 (J16 (J8 ([])))))))))
noncomputable def formed_r8_R (c : EChk) (f : EForm) (x : EIns) (at_ : Int) (k : Int) (sh : Bool) : Tree :=
  .ite (sh)
  (.need ((0 : Int) ≤ k ∧ (k : Int) < ((3 : Nat) : Int)) <|
   .need ((Int.toNat k) < ([x.2.1, x.2.2.1, x.2.2.2.1]).length) <|
   .ite (decide ((([x.2.1, x.2.2.1, x.2.2.2.1]).getD (Int.toNat k) tI.dflt) < 0))
   (.ret (.c (.lit false)) [.cells 86 (Ty.enc tChk c), .cells 88 (Ty.enc tForm f), .cells 46 (Ty.enc tIns x), .vec 93 tI ([x.2.1, x.2.2.1, x.2.2.2.1])])
   (.ite ((!sh))
    (.need ((0 : Int) ≤ k ∧ (k : Int) < ((3 : Nat) : Int)) <|
     .need ((Int.toNat k) < ([x.2.1, x.2.2.1, x.2.2.2.1]).length) <|
     .ite ((!(decide ((([x.2.1, x.2.2.1, x.2.2.2.1]).getD (Int.toNat k) tI.dflt) = (-1)))))
     (.ret (.c (.lit false)) [.cells 86 (Ty.enc tChk c), .cells 88 (Ty.enc tForm f), .cells 46 (Ty.enc tIns x), .vec 93 tI ([x.2.1, x.2.2.1, x.2.2.2.1])])
     (.need (inR .i64 (k + 1)) <|
      .stop (lp (bodyOf Tryd.f44) 0) (bCd0 at_ k sh) [.cells 86 (Ty.enc tChk c), .cells 88 (Ty.enc tForm f), .cells 46 (Ty.enc tIns x), .vec 93 tI ([x.2.1, x.2.2.1, x.2.2.2.1])]))
    (.need (inR .i64 (k + 1)) <|
     .stop (lp (bodyOf Tryd.f44) 0) (bCd0 at_ k sh) [.cells 86 (Ty.enc tChk c), .cells 88 (Ty.enc tForm f), .cells 46 (Ty.enc tIns x), .vec 93 tI ([x.2.1, x.2.2.1, x.2.2.2.1])])))
  (.ite ((!sh))
   (.need ((0 : Int) ≤ k ∧ (k : Int) < ((3 : Nat) : Int)) <|
    .need ((Int.toNat k) < ([x.2.1, x.2.2.1, x.2.2.2.1]).length) <|
    .ite ((!(decide ((([x.2.1, x.2.2.1, x.2.2.2.1]).getD (Int.toNat k) tI.dflt) = (-1)))))
    (.ret (.c (.lit false)) [.cells 86 (Ty.enc tChk c), .cells 88 (Ty.enc tForm f), .cells 46 (Ty.enc tIns x), .vec 93 tI ([x.2.1, x.2.2.1, x.2.2.2.1])])
    (.need (inR .i64 (k + 1)) <|
     .stop (lp (bodyOf Tryd.f44) 0) (bCd0 at_ k sh) [.cells 86 (Ty.enc tChk c), .cells 88 (Ty.enc tForm f), .cells 46 (Ty.enc tIns x), .vec 93 tI ([x.2.1, x.2.2.1, x.2.2.2.1])]))
   (.need (inR .i64 (k + 1)) <|
    .stop (lp (bodyOf Tryd.f44) 0) (bCd0 at_ k sh) [.cells 86 (Ty.enc tChk c), .cells 88 (Ty.enc tForm f), .cells 46 (Ty.enc tIns x), .vec 93 tI ([x.2.1, x.2.2.1, x.2.2.2.1])]))
theorem formed_r8_R_ok (c : EChk) (f : EForm) (x : EIns) (at_ : Int) (k : Int) (sh : Bool) : aRound Tryd.prog oc7 Tryd.f44 formed_lv 3000 (rg (bodyOf Tryd.f44) 8) (J2 (.junk :: .c (.int .i64 at_) :: .c (.ptr 0 0 0 0) :: .c (.ptr 1 0 0 0) :: .c (.ptr 2 0 0 0) :: J2 (.c (.ptr 3 0 0 0) :: .c (.int .i64 k) :: .c (.bool sh) :: J32 (J32 (J32 (J32 (J16 (J8 ([]))))))))) [.cells 86 (Ty.enc tChk c), .cells 88 (Ty.enc tForm f), .cells 46 (Ty.enc tIns x), .vec 93 tI ([x.2.1, x.2.2.1, x.2.2.2.1])] = formed_r8_R c f x at_ k sh := by kernel_rfl
abbrev bCd1 (at_ : Int) (k : Int) : List AV := (J2 (.junk :: .c (.int .i64 at_) :: .c (.ptr 0 0 0 0) :: .c (.ptr 1 0 0 0) :: .c (.ptr 2 0 0 0) :: J2 (.c (.ptr 3 0 0 0) :: .c (.int .i64 k) :: J32 (J32 (J32 (J32 (J16 (J8 (.junk :: [])))))))))
noncomputable def formed_l0_R (c : EChk) (f : EForm) (x : EIns) (at_ : Int) (k : Int) : Tree :=
  .ite (decide (k < 3))
  (.ite (decide (k = 1))
   (.ite (decide (x.1 = 19))
    (.stop (rg (bodyOf Tryd.f44) 8) (J2 (.junk :: .c (.int .i64 at_) :: .c (.ptr 0 0 0 0) :: .c (.ptr 1 0 0 0) :: .c (.ptr 2 0 0 0) :: J2 (.c (.ptr 3 0 0 0) :: .c (.int .i64 k) :: .c (.lit true) :: J32 (J32 (J32 (J32 (J16 (J8 ([]))))))))) [.cells 86 (Ty.enc tChk c), .cells 88 (Ty.enc tForm f), .cells 46 (Ty.enc tIns x), .vec 93 tI ([x.2.1, x.2.2.1, x.2.2.2.1])])
    (.ite (decide (x.1 = 9))
     (.stop (rg (bodyOf Tryd.f44) 8) (J2 (.junk :: .c (.int .i64 at_) :: .c (.ptr 0 0 0 0) :: .c (.ptr 1 0 0 0) :: .c (.ptr 2 0 0 0) :: J2 (.c (.ptr 3 0 0 0) :: .c (.int .i64 k) :: .c (.bool (decide (x.2.2.2.2.1 = 1))) :: J32 (J32 (J32 (J32 (J16 (J8 ([]))))))))) [.cells 86 (Ty.enc tChk c), .cells 88 (Ty.enc tForm f), .cells 46 (Ty.enc tIns x), .vec 93 tI ([x.2.1, x.2.2.1, x.2.2.2.1])])
     (.stop (rg (bodyOf Tryd.f44) 8) (J2 (.junk :: .c (.int .i64 at_) :: .c (.ptr 0 0 0 0) :: .c (.ptr 1 0 0 0) :: .c (.ptr 2 0 0 0) :: J2 (.c (.ptr 3 0 0 0) :: .c (.int .i64 k) :: .c (.lit false) :: J32 (J32 (J32 (J32 (J16 (J8 ([]))))))))) [.cells 86 (Ty.enc tChk c), .cells 88 (Ty.enc tForm f), .cells 46 (Ty.enc tIns x), .vec 93 tI ([x.2.1, x.2.2.1, x.2.2.2.1])])))
   (.stop (rg (bodyOf Tryd.f44) 8) (J2 (.junk :: .c (.int .i64 at_) :: .c (.ptr 0 0 0 0) :: .c (.ptr 1 0 0 0) :: .c (.ptr 2 0 0 0) :: J2 (.c (.ptr 3 0 0 0) :: .c (.int .i64 k) :: .c (.lit false) :: J32 (J32 (J32 (J32 (J16 (J8 ([]))))))))) [.cells 86 (Ty.enc tChk c), .cells 88 (Ty.enc tForm f), .cells 46 (Ty.enc tIns x), .vec 93 tI ([x.2.1, x.2.2.1, x.2.2.2.1])]))
  (.stop (rg (bodyOf Tryd.f44) 10) (bCd1 at_ k) [.cells 86 (Ty.enc tChk c), .cells 88 (Ty.enc tForm f), .cells 46 (Ty.enc tIns x), .vec 93 tI ([x.2.1, x.2.2.1, x.2.2.2.1])])
theorem formed_l0_R_ok (c : EChk) (f : EForm) (x : EIns) (at_ : Int) (k : Int) : aRound Tryd.prog oc7 Tryd.f44 formed_lv 3000 (lp (bodyOf Tryd.f44) 0) (bCd1 at_ k) [.cells 86 (Ty.enc tChk c), .cells 88 (Ty.enc tForm f), .cells 46 (Ty.enc tIns x), .vec 93 tI ([x.2.1, x.2.2.1, x.2.2.2.1])] = formed_l0_R c f x at_ k := by kernel_rfl
theorem formed_r14 (c : EChk) (f : EForm) (x : EIns) (at_ : Int)  : Run Tryd.prog 44 (retQ Tryd.prog (.c (.bool (exitOk c f x at_)))) (rg (bodyOf Tryd.f44) 14) (bCd2 at_) [.cells 86 (Ty.enc tChk c), .cells 88 (Ty.enc tForm f), .cells 46 (Ty.enc tIns x)] :=
  Run.roundA oc7 formed_lv 3000 Tryd.func44 mixed (formed_r14_R c f x at_) (formed_r14_R_ok c f x at_) (by
    unfold formed_r14_R
    refine g_iteD (fun h0 => ?_) (fun h0 => ?_)
    · exact g_retb (by simp only [exitOk, h0, if_true, if_false, Bool.false_eq_true, reduceCtorEq, Int.reduceEq, Int.reduceNeg, decide_true, Bool.not_true, Bool.not_false])
    · refine g_iteD (fun h1 => ?_) (fun h1 => ?_)
      · refine g_iteD (fun h2 => ?_) (fun h2 => ?_)
        · exact g_retb (by simp only [exitOk, h0, h1, h2, if_true, if_false, Bool.false_eq_true, reduceCtorEq, Int.reduceEq, Int.reduceNeg, decide_true, Bool.not_true, Bool.not_false])
        · refine g_iteD (fun h3 => ?_) (fun h3 => ?_)
          · refine g_iteD (fun h4 => ?_) (fun h4 => ?_)
            · refine g_need (by omega) ?_
              refine g_need (by omega) ?_
              refine g_call (rightX_fun c (c.2.2.2.2.2.1.getD (Int.toNat x.2.2.2.2.2.1) tExit.dflt) at_) (fun h => nomatch h) ?_
              exact g_retb (by simp only [exitOk, h0, h1, h2, h3, h4, if_true, if_false, Bool.false_eq_true, reduceCtorEq, Int.reduceEq, Int.reduceNeg, decide_true, Bool.not_true, Bool.not_false])
            · exact g_retl (by simp only [exitOk, h0, h1, h2, h3, h4, if_true, if_false, Bool.false_eq_true, reduceCtorEq, Int.reduceEq, Int.reduceNeg, decide_true, Bool.not_true, Bool.not_false])
          · exact g_retl (by simp only [exitOk, h0, h1, h2, h3, if_true, if_false, Bool.false_eq_true, reduceCtorEq, Int.reduceEq, Int.reduceNeg, decide_true, Bool.not_true, Bool.not_false])
      · refine g_iteD (fun h2 => ?_) (fun h2 => ?_)
        · refine g_iteD (fun h3 => ?_) (fun h3 => ?_)
          · refine g_need (by omega) ?_
            refine g_need (by omega) ?_
            refine g_call (rightX_fun c (c.2.2.2.2.2.1.getD (Int.toNat x.2.2.2.2.2.1) tExit.dflt) at_) (fun h => nomatch h) ?_
            exact g_retb (by simp only [exitOk, h0, h1, h2, h3, if_true, if_false, Bool.false_eq_true, reduceCtorEq, Int.reduceEq, Int.reduceNeg, decide_true, Bool.not_true, Bool.not_false])
          · exact g_retl (by simp only [exitOk, h0, h1, h2, h3, if_true, if_false, Bool.false_eq_true, reduceCtorEq, Int.reduceEq, Int.reduceNeg, decide_true, Bool.not_true, Bool.not_false])
        · exact g_retl (by simp only [exitOk, h0, h1, h2, if_true, if_false, Bool.false_eq_true, reduceCtorEq, Int.reduceEq, Int.reduceNeg, decide_true, Bool.not_true, Bool.not_false])
    )
theorem formed_r12 (c : EChk) (f : EForm) (x : EIns) (at_ : Int)  : Run Tryd.prog 44 (retQ Tryd.prog (.c (.bool (tail2F c f x at_)))) (rg (bodyOf Tryd.f44) 12) (bCd2 at_) [.cells 86 (Ty.enc tChk c), .cells 88 (Ty.enc tForm f), .cells 46 (Ty.enc tIns x)] :=
  Run.roundA oc7 formed_lv 3000 Tryd.func44 mixed (formed_r12_R c f x at_) (formed_r12_R_ok c f x at_) (by
    unfold formed_r12_R
    refine g_iteN (fun h0 => ?_) (fun h0 => ?_)
    · refine g_iteN (fun h1 => ?_) (fun h1 => ?_)
      · exact g_retl (by simp only [tail2F, kOk, refOk, h0, h1, if_true, if_false, Bool.false_eq_true, reduceCtorEq, Int.reduceEq, Int.reduceNeg, decide_true, Bool.not_true, Bool.not_false])
      · refine g_ite (fun h2 => ?_) (fun h2 => ?_)
        · refine g_call (rightV_fun x.2.2.2.2.2.2) (fun h => nomatch h) ?_
          refine g_iteN (fun h3 => ?_) (fun h3 => ?_)
          · exact g_retl (by simp_all [tail2F, kOk, refOk])
          · refine g_iteD (fun h4 => ?_) (fun h4 => ?_)
            · refine g_iteD (fun h5 => ?_) (fun h5 => ?_)
              · exact g_retl (by simp_all [tail2F, kOk, refOk])
              · refine g_stop (RunN.keep [0, 1, 2] (F2 (false :: true :: true :: true :: true :: F32 (F32 (F32 (F32 (F16 (F8 (F4 (false :: []))))))))) n0 (by decide) rfl rfl ?_)
                have ht := formed_r14 c f x at_; first | (simp only [tail2F, kOk, refOk, h0, h1, h2, h3, h4, h5, if_true, if_false, Bool.false_eq_true, reduceCtorEq, Int.reduceEq, Int.reduceNeg, decide_true, Bool.not_true, Bool.not_false]; exact ht) | (exfalso; simp_all; done)
            · refine g_stop (RunN.keep [0, 1, 2] (F2 (false :: true :: true :: true :: true :: F32 (F32 (F32 (F32 (F16 (F8 (F4 (false :: []))))))))) n0 (by decide) rfl rfl ?_)
              have ht := formed_r14 c f x at_; first | (simp only [tail2F, kOk, refOk, h0, h1, h2, h3, h4, if_true, if_false, Bool.false_eq_true, reduceCtorEq, Int.reduceEq, Int.reduceNeg, decide_true, Bool.not_true, Bool.not_false]; exact ht) | (exfalso; simp_all; done)
        · refine g_iteD (fun h3 => ?_) (fun h3 => ?_)
          · refine g_iteD (fun h4 => ?_) (fun h4 => ?_)
            · exact g_retl (by simp_all [tail2F, kOk, refOk])
            · refine g_stop (RunN.keep [0, 1, 2] (F2 (false :: true :: true :: true :: true :: F32 (F32 (F32 (F32 (F16 (F8 (F4 (false :: []))))))))) n0 (by decide) rfl rfl ?_)
              have ht := formed_r14 c f x at_; first | (simp only [tail2F, kOk, refOk, h0, h1, h2, h3, h4, if_true, if_false, Bool.false_eq_true, reduceCtorEq, Int.reduceEq, Int.reduceNeg, decide_true, Bool.not_true, Bool.not_false]; exact ht) | (exfalso; simp_all; done)
          · refine g_stop (RunN.keep [0, 1, 2] (F2 (false :: true :: true :: true :: true :: F32 (F32 (F32 (F32 (F16 (F8 (F4 (false :: []))))))))) n0 (by decide) rfl rfl ?_)
            have ht := formed_r14 c f x at_; first | (simp only [tail2F, kOk, refOk, h0, h1, h2, h3, if_true, if_false, Bool.false_eq_true, reduceCtorEq, Int.reduceEq, Int.reduceNeg, decide_true, Bool.not_true, Bool.not_false]; exact ht) | (exfalso; simp_all; done)
    · refine g_ite (fun h1 => ?_) (fun h1 => ?_)
      · refine g_call (rightV_fun x.2.2.2.2.2.2) (fun h => nomatch h) ?_
        refine g_iteN (fun h2 => ?_) (fun h2 => ?_)
        · exact g_retl (by simp only [tail2F, kOk, refOk, h0, h1, h2, if_true, if_false, Bool.false_eq_true, reduceCtorEq, Int.reduceEq, Int.reduceNeg, decide_true, Bool.not_true, Bool.not_false])
        · refine g_iteD (fun h3 => ?_) (fun h3 => ?_)
          · refine g_iteD (fun h4 => ?_) (fun h4 => ?_)
            · exact g_retl (by simp only [tail2F, kOk, refOk, h0, h1, h2, h3, h4, if_true, if_false, Bool.false_eq_true, reduceCtorEq, Int.reduceEq, Int.reduceNeg, decide_true, Bool.not_true, Bool.not_false])
            · refine g_stop (RunN.keep [0, 1, 2] (F2 (false :: true :: true :: true :: true :: F32 (F32 (F32 (F32 (F16 (F8 (F4 (false :: []))))))))) n0 (by decide) rfl rfl ?_)
              have ht := formed_r14 c f x at_; first | (simp only [tail2F, kOk, refOk, h0, h1, h2, h3, h4, if_true, if_false, Bool.false_eq_true, reduceCtorEq, Int.reduceEq, Int.reduceNeg, decide_true, Bool.not_true, Bool.not_false]; exact ht) | (exfalso; simp_all; done)
          · refine g_stop (RunN.keep [0, 1, 2] (F2 (false :: true :: true :: true :: true :: F32 (F32 (F32 (F32 (F16 (F8 (F4 (false :: []))))))))) n0 (by decide) rfl rfl ?_)
            have ht := formed_r14 c f x at_; first | (simp only [tail2F, kOk, refOk, h0, h1, h2, h3, if_true, if_false, Bool.false_eq_true, reduceCtorEq, Int.reduceEq, Int.reduceNeg, decide_true, Bool.not_true, Bool.not_false]; exact ht) | (exfalso; simp_all; done)
      · refine g_iteD (fun h2 => ?_) (fun h2 => ?_)
        · refine g_iteD (fun h3 => ?_) (fun h3 => ?_)
          · exact g_retl (by simp_all [tail2F, kOk, refOk])
          · refine g_stop (RunN.keep [0, 1, 2] (F2 (false :: true :: true :: true :: true :: F32 (F32 (F32 (F32 (F16 (F8 (F4 (false :: []))))))))) n0 (by decide) rfl rfl ?_)
            have ht := formed_r14 c f x at_; first | (simp only [tail2F, kOk, refOk, h0, h1, h2, h3, if_true, if_false, Bool.false_eq_true, reduceCtorEq, Int.reduceEq, Int.reduceNeg, decide_true, Bool.not_true, Bool.not_false]; exact ht) | (exfalso; simp_all; done)
        · refine g_stop (RunN.keep [0, 1, 2] (F2 (false :: true :: true :: true :: true :: F32 (F32 (F32 (F32 (F16 (F8 (F4 (false :: []))))))))) n0 (by decide) rfl rfl ?_)
          have ht := formed_r14 c f x at_; first | (simp only [tail2F, kOk, refOk, h0, h1, h2, if_true, if_false, Bool.false_eq_true, reduceCtorEq, Int.reduceEq, Int.reduceNeg, decide_true, Bool.not_true, Bool.not_false]; exact ht) | (exfalso; simp_all; done)
    )
theorem formed_r10 (c : EChk) (f : EForm) (x : EIns) (at_ : Int)  : Run Tryd.prog 44 (retQ Tryd.prog (.c (.bool (tailF c f x at_)))) (rg (bodyOf Tryd.f44) 10) (bCd2 at_) [.cells 86 (Ty.enc tChk c), .cells 88 (Ty.enc tForm f), .cells 46 (Ty.enc tIns x)] :=
  Run.roundA oc7 formed_lv 3000 Tryd.func44 mixed (formed_r10_R c f x at_) (formed_r10_R_ok c f x at_) (by
    unfold formed_r10_R
    refine g_iteD (fun h0 => ?_) (fun h0 => ?_)
    · exact g_retl (by simp only [tailF, regOk, h0, if_true, if_false, Bool.false_eq_true, reduceCtorEq, Int.reduceEq, Int.reduceNeg, decide_true, Bool.not_true, Bool.not_false])
    · refine g_iteD (fun h1 => ?_) (fun h1 => ?_)
      · exact g_retl (by simp only [tailF, regOk, h0, h1, if_true, if_false, Bool.false_eq_true, reduceCtorEq, Int.reduceEq, Int.reduceNeg, decide_true, Bool.not_true, Bool.not_false])
      · refine g_iteD (fun h2 => ?_) (fun h2 => ?_)
        · refine g_iteD (fun h3 => ?_) (fun h3 => ?_)
          · exact g_retl (by simp only [tailF, regOk, h0, h1, h2, h3, if_true, if_false, Bool.false_eq_true, reduceCtorEq, Int.reduceEq, Int.reduceNeg, decide_true, Bool.not_true, Bool.not_false])
          · refine g_stop (RunN.keep [0, 1, 2] (F2 (false :: true :: true :: true :: true :: F32 (F32 (F32 (F32 (F16 (F8 (F4 (false :: []))))))))) n0 (by decide) rfl rfl ?_)
            have ht := formed_r12 c f x at_; first | (simp only [tailF, regOk, h0, h1, h2, h3, if_true, if_false, Bool.false_eq_true, reduceCtorEq, Int.reduceEq, Int.reduceNeg, decide_true, Bool.not_true, Bool.not_false]; exact ht) | (exfalso; simp_all; done)
        · refine g_stop (RunN.keep [0, 1, 2] (F2 (false :: true :: true :: true :: true :: F32 (F32 (F32 (F32 (F16 (F8 (F4 (false :: []))))))))) n0 (by decide) rfl rfl ?_)
          have ht := formed_r12 c f x at_; first | (simp only [tailF, regOk, h0, h1, h2, if_true, if_false, Bool.false_eq_true, reduceCtorEq, Int.reduceEq, Int.reduceNeg, decide_true, Bool.not_true, Bool.not_false]; exact ht) | (exfalso; simp_all; done)
    )
theorem formed_r8 (c : EChk) (f : EForm) (x : EIns) (at_ : Int) (k : Int) (sh : Bool) (hk : 0 ≤ k ∧ k < 3) (hn : Run Tryd.prog 44 (retQ Tryd.prog (.c (.bool (restF x (k + 1) && tailF c f x at_)))) (lp (bodyOf Tryd.f44) 0) (J2 (.junk :: .c (.int .i64 at_) :: .c (.ptr 0 0 0 0) :: .c (.ptr 1 0 0 0) :: .c (.ptr 2 0 0 0) :: J2 (.c (.ptr 3 0 0 0) :: .c (.int .i64 (k + 1)) :: J32 (J32 (J32 (J32 (J16 (J8 (.junk :: []))))))))) [.cells 86 (Ty.enc tChk c), .cells 88 (Ty.enc tForm f), .cells 46 (Ty.enc tIns x), .vec 93 tI ([x.2.1, x.2.2.1, x.2.2.2.1])]) : Run Tryd.prog 44 (retQ Tryd.prog (.c (.bool (okV sh ([x.2.1, x.2.2.1, x.2.2.2.1].getD k.toNat tI.dflt) && (restF x (k + 1) && tailF c f x at_))))) (rg (bodyOf Tryd.f44) 8) (J2 (.junk :: .c (.int .i64 at_) :: .c (.ptr 0 0 0 0) :: .c (.ptr 1 0 0 0) :: .c (.ptr 2 0 0 0) :: J2 (.c (.ptr 3 0 0 0) :: .c (.int .i64 k) :: .c (.bool sh) :: J32 (J32 (J32 (J32 (J16 (J8 ([]))))))))) [.cells 86 (Ty.enc tChk c), .cells 88 (Ty.enc tForm f), .cells 46 (Ty.enc tIns x), .vec 93 tI ([x.2.1, x.2.2.1, x.2.2.2.1])] :=
  Run.roundA oc7 formed_lv 3000 Tryd.func44 mixed (formed_r8_R c f x at_ k sh) (formed_r8_R_ok c f x at_ k sh) (by
    unfold formed_r8_R
    refine g_ite (fun h0 => ?_) (fun h0 => ?_)
    · refine g_need (by omega) ?_
      refine g_need (by simp; omega) ?_
      refine g_iteD (fun h1 => ?_) (fun h1 => ?_)
      · exact g_retl (by have q := hk; simp_all [okV]; omega)
      · refine g_iteN (fun h2 => ?_) (fun h2 => ?_)
        · refine g_need (by omega) ?_
          refine g_need (by simp; omega) ?_
          refine g_iteND (fun h3 => ?_) (fun h3 => ?_)
          · exact g_retl (by exfalso; simp_all)
          · refine g_need (by omega) ?_
            refine g_stop (RunN.keep [0, 1, 2, 3] (F2 (false :: true :: true :: true :: true :: F2 (true :: true :: F32 (F32 (F32 (F32 (F16 (F8 (false :: []))))))))) n0 (by decide) rfl rfl ?_)
            first | (exfalso; simp_all; done) | (simp only [okV, h0, h1, h2, h3, if_true, if_false, Bool.false_eq_true, decide_true, Bool.true_and]; exact hn) | (have e : okV sh ([x.2.1, x.2.2.1, x.2.2.2.1].getD k.toNat tI.dflt) = true := (by simp only [okV, h0, h1, h2, h3, if_true, if_false, Bool.false_eq_true]; exact decide_eq_true (by omega)); simp only [h0, h1, h2, h3] at e; simp only [h0, h1, h2, h3, e, Bool.true_and]; exact hn)
        · refine g_need (by rw [i64_iff]; omega) ?_
          refine g_stop (RunN.keep [0, 1, 2, 3] (F2 (false :: true :: true :: true :: true :: F2 (true :: true :: F32 (F32 (F32 (F32 (F16 (F8 (false :: []))))))))) n0 (by decide) rfl rfl ?_)
          first | (exfalso; simp_all; done) | (simp only [okV, h0, h1, h2, if_true, if_false, Bool.false_eq_true, decide_true, Bool.true_and]; exact hn) | (have e : okV sh ([x.2.1, x.2.2.1, x.2.2.2.1].getD k.toNat tI.dflt) = true := (by simp only [okV, h0, h1, h2, if_true, if_false, Bool.false_eq_true]; exact decide_eq_true (by omega)); simp only [h0, h1, h2] at e; simp only [h0, h1, h2, e, Bool.true_and]; exact hn)
    · refine g_iteN (fun h1 => ?_) (fun h1 => ?_)
      · refine g_need (by omega) ?_
        refine g_need (by simp; omega) ?_
        refine g_iteND (fun h2 => ?_) (fun h2 => ?_)
        · exact g_retl (by simp only [okV, h0, h1, h2, if_true, if_false, Bool.false_eq_true, decide_false, Bool.false_and])
        · refine g_need (by rw [i64_iff]; omega) ?_
          refine g_stop (RunN.keep [0, 1, 2, 3] (F2 (false :: true :: true :: true :: true :: F2 (true :: true :: F32 (F32 (F32 (F32 (F16 (F8 (false :: []))))))))) n0 (by decide) rfl rfl ?_)
          first | (exfalso; simp_all; done) | (simp only [okV, h0, h1, h2, if_true, if_false, Bool.false_eq_true, decide_true, Bool.true_and]; exact hn) | (have e : okV sh ([x.2.1, x.2.2.1, x.2.2.2.1].getD k.toNat tI.dflt) = true := (by simp only [okV, h0, h1, h2, if_true, if_false, Bool.false_eq_true]; exact decide_eq_true (by omega)); simp only [h0, h1, h2] at e; simp only [h0, h1, h2, e, Bool.true_and]; exact hn)
      · refine g_need (by rw [i64_iff]; omega) ?_
        refine g_stop (RunN.keep [0, 1, 2, 3] (F2 (false :: true :: true :: true :: true :: F2 (true :: true :: F32 (F32 (F32 (F32 (F16 (F8 (false :: []))))))))) n0 (by decide) rfl rfl ?_)
        first | (exfalso; simp_all; done) | (simp only [okV, h0, h1, if_true, if_false, Bool.false_eq_true, decide_true, Bool.true_and]; exact hn) | (have e : okV sh ([x.2.1, x.2.2.1, x.2.2.2.1].getD k.toNat tI.dflt) = true := (by simp only [okV, h0, h1, if_true, if_false, Bool.false_eq_true]; exact decide_eq_true (by omega)); simp only [h0, h1] at e; simp only [h0, h1, e, Bool.true_and]; exact hn)
    )
theorem formed_l0 (c : EChk) (f : EForm) (x : EIns) (at_ : Int) (k : Int) (hk : 0 ≤ k) : Run Tryd.prog 44 (retQ Tryd.prog (.c (.bool (restF x k && tailF c f x at_)))) (lp (bodyOf Tryd.f44) 0) (bCd1 at_ k) [.cells 86 (Ty.enc tChk c), .cells 88 (Ty.enc tForm f), .cells 46 (Ty.enc tIns x), .vec 93 tI ([x.2.1, x.2.2.1, x.2.2.2.1])] :=
  Run.roundA oc7 formed_lv 3000 Tryd.func44 mixed (formed_l0_R c f x at_ k) (formed_l0_R_ok c f x at_ k) (by
    unfold formed_l0_R
    refine g_iteD (fun h0 => ?_) (fun h0 => ?_)
    · refine g_iteD (fun h1 => ?_) (fun h1 => ?_)
      · refine g_iteD (fun h2 => ?_) (fun h2 => ?_)
        · refine g_stop (RunN.keepU [0, 1, 2, 3] (F2 (false :: true :: true :: true :: true :: F2 (true :: true :: true :: F32 (F32 (F32 (F32 (F16 (F8 ([]))))))))) (F8 (F2 (false :: true :: []))) ([]) n0 (by decide) rfl rfl ?_)
          have ht := formed_r8 c f x at_ k true (by omega) (formed_l0 c f x at_ (k + 1) (by omega)); have e : shF x k = true := (by simp only [shF, h0, h1, h2, if_true, if_false, reduceCtorEq, Int.reduceEq]); rw [restF_step (by omega) (by omega), e, Bool.and_assoc]; exact ht
        · refine g_iteD (fun h3 => ?_) (fun h3 => ?_)
          · refine g_stop (RunN.keepU [0, 1, 2, 3] (F2 (false :: true :: true :: true :: true :: F2 (true :: true :: true :: F32 (F32 (F32 (F32 (F16 (F8 ([]))))))))) (F8 (F2 (false :: true :: []))) ([]) n0 (by decide) rfl rfl ?_)
            have ht := formed_r8 c f x at_ k (decide (x.2.2.2.2.1 = 1)) (by omega) (formed_l0 c f x at_ (k + 1) (by omega)); have e : shF x k = (decide (x.2.2.2.2.1 = 1)) := (by simp only [shF, h0, h1, h2, h3, if_true, if_false, reduceCtorEq, Int.reduceEq]); rw [restF_step (by omega) (by omega), e, Bool.and_assoc]; exact ht
          · refine g_stop (RunN.keepU [0, 1, 2, 3] (F2 (false :: true :: true :: true :: true :: F2 (true :: true :: true :: F32 (F32 (F32 (F32 (F16 (F8 ([]))))))))) (F8 (F2 (false :: true :: []))) ([]) n0 (by decide) rfl rfl ?_)
            have ht := formed_r8 c f x at_ k false (by omega) (formed_l0 c f x at_ (k + 1) (by omega)); have e : shF x k = false := (by simp only [shF, h0, h1, h2, h3, if_true, if_false, reduceCtorEq, Int.reduceEq]); rw [restF_step (by omega) (by omega), e, Bool.and_assoc]; exact ht
      · refine g_stop (RunN.keepU [0, 1, 2, 3] (F2 (false :: true :: true :: true :: true :: F2 (true :: true :: true :: F32 (F32 (F32 (F32 (F16 (F8 ([]))))))))) (F8 (F2 (false :: true :: []))) ([]) n0 (by decide) rfl rfl ?_)
        have ht := formed_r8 c f x at_ k false (by omega) (formed_l0 c f x at_ (k + 1) (by omega)); have e : shF x k = false := (by simp only [shF, h0, h1, if_true, if_false, reduceCtorEq, Int.reduceEq]); rw [restF_step (by omega) (by omega), e, Bool.and_assoc]; exact ht
    · refine g_stop (RunN.keep [0, 1, 2] (F2 (false :: true :: true :: true :: true :: F32 (F32 (F32 (F32 (F16 (F8 (F4 (false :: []))))))))) n0 (by decide) rfl rfl ?_)
      have ht := formed_r10 c f x at_; rw [restF_ge (by omega), Bool.true_and]; exact ht
    )
  termination_by (3 - k).toNat
  decreasing_by all_goals omega
theorem formed_fun (c : EChk) (f : EForm) (x : EIns) (at_ : Int) (hf : 0 ≤ f.1 ∧ f.1 ≤ 3) : AFun Tryd.prog 44 [.agg (tChk.enc c), .agg (tForm.enc f), .agg (tIns.enc x), .c (.int .i64 at_)] (.c (.bool (formedF c f x at_))) :=
  AFun.of oc7 formed_lv 3000 Tryd.func44 mixed rfl (by decide) (Nat.le_of_ble_eq_true rfl) _ (formed_T_ok c f x at_) fun hF => by
    unfold formed_T
    refine g_need (by constructor <;> omega) ?_
    refine g_need (by simp; omega) ?_
    refine g_need (by simp; omega) ?_
    refine g_call (values_fun c (([x.2.1, x.2.2.1, x.2.2.2.1]).take (Int.toNat f.1)) at_) (fun _ => rfl) ?_
    refine g_iteN (fun h0 => ?_) (fun h0 => ?_)
    · exact g_retl (by simp only [formedF, h0, Bool.false_and])
    · refine g_stop (RunN.keep [0, 1, 2, 3] (F2 (false :: true :: true :: true :: true :: F2 (true :: true :: F32 (F32 (F32 (F32 (F16 (F8 (false :: []))))))))) n0 (by decide) rfl rfl ?_)
      have := formed_l0 c f x at_ f.1 hf.1; simp only [formedF, h0, Bool.true_and]; exact this

end Go.Proofs.YtefkifdhjabdiaaDoor
namespace Go.Proofs.YtefkifdhjabdiaaDoor
set_option linter.unusedVariables false
set_option linter.unusedSimpArgs false
open Go.RowKit

structure Val where
  kind : Int
  n : Int
deriving DecidableEq
structure Ord where
  op : Int
  a : Int
  b : Int
  c : Int
  line : Int
deriving DecidableEq
structure Fn where
  params : Int
  regs : Int
  gen : Bool
  caught : List Int
  code : List Ord
deriving DecidableEq
structure Prog where
  fns : List Fn
  consts : List Val
  texts : List ByteArray

def Val.cells (s : Val) : Array Value := #[.int .i64 s.kind, .int .i64 s.n]
def rdVal : Rd Val where
  sz := 2
  K := fun _ _ x cs => cs = x.cells.toList ∧ Rd.IsInt x.kind ∧ Rd.IsInt x.n
  len := fun h' => by rw [h'.1]; rfl
  one := fun h' u hu => by
    rw [h'.1] at hu
    simp [Val.cells] at hu
    rcases hu with h | h <;> rw [h] <;> rfl
  move := fun _ h => h
  mono := fun _ h => h
  bound := fun h => h
def Ord.cells (i : Ord) : Array Value := #[.int .i64 i.op, .int .i64 i.a, .int .i64 i.b, .int .i64 i.c, .int .i64 i.line]
def rdOrd : Rd Ord where
  sz := 5
  K := fun _ _ x cs => cs = x.cells.toList ∧ Rd.IsInt x.op ∧ Rd.IsInt x.a ∧ Rd.IsInt x.b ∧ Rd.IsInt x.c ∧ Rd.IsInt x.line
  len := fun h' => by rw [h'.1]; rfl
  one := fun h' u hu => by
    rw [h'.1] at hu
    simp [Ord.cells] at hu
    rcases hu with h | h | h | h | h <;> rw [h] <;> rfl
  move := fun _ h => h
  mono := fun _ h => h
  bound := fun h => h
def rdFn : Rd Fn where
  sz := 5
  K := fun ok w x cs => ∃ v1 v2, cs = [.int .i64 x.params, .int .i64 x.regs, .bool x.gen, v1, v2] ∧ (Rd.IsInt x.params ∧ Rd.IsInt x.regs) ∧ SlK Rd.int ok w x.caught v1 ∧ SlK rdOrd ok w x.code v2
  len := fun ⟨v1, v2, h, _⟩ => by rw [h]; rfl
  one := fun ⟨v1, v2, h, _, h1, h2⟩ u hu => by
    rw [h] at hu
    simp at hu
    rcases hu with h | h | h | h | h
    · rw [h]; rfl
    · rw [h]; rfl
    · rw [h]; rfl
    · rw [h]; exact h1.one
    · rw [h]; exact h2.one
  move := fun hm ⟨v1, v2, h, hi, h1, h2⟩ => ⟨v1, v2, h, hi, (Rd.slice Rd.int).move hm h1, (Rd.slice rdOrd).move hm h2⟩
  mono := fun hm ⟨v1, v2, h, hi, h1, h2⟩ => ⟨v1, v2, h, hi, (Rd.slice Rd.int).mono hm h1, (Rd.slice rdOrd).mono hm h2⟩
  bound := fun ⟨v1, v2, h, hi, h1, h2⟩ => ⟨v1, v2, h, hi, (Rd.slice Rd.int).bound h1, (Rd.slice rdOrd).bound h2⟩
def rdProg : Rd Prog where
  sz := 3
  K := fun ok w x cs => ∃ v1 v2 v3, cs = [v1, v2, v3] ∧ SlK rdFn ok w x.fns v1 ∧ SlK rdVal ok w x.consts v2 ∧ SlK Rd.str ok w x.texts v3
  len := fun ⟨v1, v2, v3, h, _⟩ => by rw [h]; rfl
  one := fun ⟨v1, v2, v3, h, h1, h2, h3⟩ u hu => by
    rw [h] at hu
    simp at hu
    rcases hu with h | h | h
    · rw [h]; exact h1.one
    · rw [h]; exact h2.one
    · rw [h]; exact h3.one
  move := fun hm ⟨v1, v2, v3, h, h1, h2, h3⟩ => ⟨v1, v2, v3, h, (Rd.slice rdFn).move hm h1, (Rd.slice rdVal).move hm h2, (Rd.slice Rd.str).move hm h3⟩
  mono := fun hm ⟨v1, v2, v3, h, h1, h2, h3⟩ => ⟨v1, v2, v3, h, (Rd.slice rdFn).mono hm h1, (Rd.slice rdVal).mono hm h2, (Rd.slice Rd.str).mono hm h3⟩
  bound := fun ⟨v1, v2, v3, h, h1, h2, h3⟩ => ⟨v1, v2, v3, h, (Rd.slice rdFn).bound h1, (Rd.slice rdVal).bound h2, (Rd.slice Rd.str).bound h3⟩

theorem opStr : Opens Tryd.prog 9 Rd.str := opens_str Tryd.underlying9 (by kernel_rfl)
theorem opBool : Opens Tryd.prog 4 Rd.bool := opens_bool Tryd.underlying4 (by kernel_rfl)
theorem opV : Opens Tryd.prog 44 rdVal :=
  opens_conv opVal rfl (fun ok w a cs h => by
      obtain ⟨_, _, rfl, ⟨rfl, i0⟩, ⟨rfl, i1⟩⟩ := h
      exact ⟨⟨_, _⟩, rfl, i0, i1⟩)
theorem opOrd : Opens Tryd.prog 189 rdOrd :=
  opens_conv (opens_struct (d := Rd.pair Rd.int (Rd.pair Rd.int (Rd.pair Rd.int (Rd.pair Rd.int Rd.int)))) Tryd.underlying189 (by kernel_rfl)
    (opensFs_cons rfl opInt (opensFs_cons rfl opInt (opensFs_cons rfl opInt (opensFs_cons rfl opInt (opensFs_one rfl opInt)))))) rfl
    (fun ok w a cs h => by
      obtain ⟨_, _, rfl, ⟨rfl, i0⟩, _, _, rfl, ⟨rfl, i1⟩, _, _, rfl, ⟨rfl, i2⟩, _, _, rfl, ⟨rfl, i3⟩, ⟨rfl, i4⟩⟩ := h
      exact ⟨⟨_, _, _, _, _⟩, rfl, i0, i1, i2, i3, i4⟩)
theorem opFn : Opens Tryd.prog 84 rdFn :=
  opens_conv (opens_struct (d := Rd.pair Rd.int (Rd.pair Rd.int (Rd.pair Rd.bool (Rd.pair (Rd.slice Rd.int) (Rd.slice rdOrd))))) Tryd.underlying84 (by kernel_rfl)
    (opensFs_cons rfl opInt (opensFs_cons rfl opInt (opensFs_cons rfl opBool (opensFs_cons rfl opIntS (opensFs_one rfl (opens_slice Tryd.underlying82 (by kernel_rfl) opOrd (by decide)))))))) rfl
    (fun ok w a cs h => by
      obtain ⟨_, _, rfl, ⟨rfl, i0⟩, _, _, rfl, ⟨rfl, i1⟩, _, _, rfl, h2, _, _, rfl, h3, h4⟩ := h
      obtain rfl := h2
      obtain ⟨v3, rfl, hv3⟩ := SlK_of h3
      obtain ⟨v4, rfl, hv4⟩ := SlK_of h4
      exact ⟨⟨_, _, _, _, _⟩, v3, v4, rfl, ⟨i0, i1⟩, hv3, hv4⟩)
theorem opProg : Opens Tryd.prog 39 rdProg :=
  opens_conv (opens_struct (d := Rd.pair (Rd.slice rdFn) (Rd.pair (Rd.slice rdVal) (Rd.slice Rd.str))) Tryd.underlying39 (by kernel_rfl)
    (opensFs_cons rfl (opens_slice Tryd.underlying35 (by kernel_rfl) opFn (by decide)) (opensFs_cons rfl (opens_slice Tryd.underlying36 (by kernel_rfl) opV (by decide)) (opensFs_one rfl (opens_slice Tryd.underlying37 (by kernel_rfl) opStr (by decide)))))) rfl
    (fun ok w a cs h => by
      obtain ⟨_, _, rfl, h3, _, _, rfl, h4, h5⟩ := h
      obtain ⟨v3, rfl, hv3⟩ := SlK_of h3
      obtain ⟨v4, rfl, hv4⟩ := SlK_of h4
      obtain ⟨v5, rfl, hv5⟩ := SlK_of h5
      exact ⟨⟨_, _, _⟩, v3, v4, v5, rfl, hv3, hv4, hv5⟩)
end Go.Proofs.YtefkifdhjabdiaaDoor
namespace Go.Proofs.YtefkifdhjabdiaaDoor
set_option linter.unusedVariables false
set_option linter.unusedSimpArgs false
open Go.RowKit

theorem C_alloc {α : Type} {d : Rd α} {ok : Nat → Prop} {w : World} {A : Option Addr} {n : Nat} {xs : List α} (h : d.C ok w A n xs) (o : Obj) : d.C ok (w.alloc o) A n xs := h.move (fun k _ hk => Below.heap_alloc _ _ _ hk)
theorem C_drew {α : Type} {d : Rd α} {ok : Nat → Prop} {w : World} {A : Option Addr} {n : Nat} {xs : List α} (h : d.C ok w A n xs) : d.C ok w.drew A n xs := Rd.C.move (w := w) (w1 := w.drew) (fun k _ hk => rfl) h

set_option maxRecDepth 100000 in
theorem irred_any (w : World) : Calls Tryd.prog 15 #[] w fun e w' => e = .returned (.bool true) ∧ Below w.heap.size w w' := by
  go_enter Tryd.func15, Tryd.ntmps15
  go_wp2_with fail
  refine (asks_any ⟨14, 4, 5, 6, 0, 0, 0, 0⟩ (by simp [Rd.IsInt]) _).mono ?_
  rintro e w1 ⟨v, rfl, hb, hK⟩
  have hl : asksF ⟨14, 4, 5, 6, 0, 0, 0, 0⟩ = [4, 5, 6] := by decide
  rw [hl] at hK
  obtain ⟨A, c, hv, _, _, _, hC⟩ := hK
  injection hv with hv
  subst hv
  have HC := Lib.hid hC
  have HB := Lib.hid hb
  clear hC hb hl
  go_wp2_with fail
  refine (eqInt_any _ _ _ _ _ _ _ _ _ _ _ (C_alloc HC.out _) (C_lit w1.heap.size #[.int .i64 4, .int .i64 5, .int .i64 6] _ _ (heap_alloc_new _ _) 3 [4, 5, 6] rfl (fun i x hi => by
        match i, hi with
        | 0, hi => simp at hi; subst hi; exact ⟨rfl, by simp [Rd.IsInt]⟩
        | 1, hi => simp at hi; subst hi; exact ⟨rfl, by simp [Rd.IsInt]⟩
        | 2, hi => simp at hi; subst hi; exact ⟨rfl, by simp [Rd.IsInt]⟩
        | n + 3, hi => simp at hi) (by omega))).mono ?_
  rintro e w2 ⟨rfl, rfl⟩
  have hd : decide ([(4 : Int), 5, 6] = [4, 5, 6]) = true := by decide
  have t1 : tellsF 13 = true := by decide
  have t2 : tellsF 11 = false := by decide
  go_wp2_with fail
  refine (tells_any 13 _).mono ?_
  rintro e w3 ⟨rfl, h3⟩
  go_wp2_with fail
  refine (tells_any 11 _).mono ?_
  rintro e w4 ⟨rfl, h4⟩
  go_wp2_with fail
  go_ret
  have e1 := HB.out.alloc HB.out.size (.cells #[.int .i64 4, .int .i64 5, .int .i64 6] 3)
  have e2 := e1.trans (h3.mono e1.size)
  exact ⟨rfl, e2.trans (h4.mono e2.size)⟩

end Go.Proofs.YtefkifdhjabdiaaDoor
