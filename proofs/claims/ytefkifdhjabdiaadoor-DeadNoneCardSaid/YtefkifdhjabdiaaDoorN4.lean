/- What the laws' texts lean on, part 5: lemmas and the contracts of functions. No condition. -/
import Derived.Test.YtefkifdhjabdiaaDoorN3
import Derived.Test.YtefkifdhjabdiaaDoorN2
namespace Go.Proofs.YtefkifdhjabdiaaDoor
set_option linter.unusedVariables false
set_option linter.unusedSimpArgs false
set_option maxRecDepth 100000
def cutLoop (loop : Int) : Nat → List EIns → List Int → List Int → Bool → Int → List EIns → Option (List Int × Bool × Int × List EIns)
 | i, x :: xs, n :: ns, at_, f, lo, ins =>
  if n = (i : Int) then cutLoop loop (i + 1) xs ns (at_ ++ [(ins.length : Int)]) (f && cutInsOk (at_ ++ [(ins.length : Int)]) x) (if (i : Int) = loop then (ins.length : Int) else lo) (ins ++ [cutIns (at_ ++ [(ins.length : Int)]) x])
  else if n = -1 then cutLoop loop (i + 1) xs ns (at_ ++ [-1]) f (if (i : Int) = loop then (ins.length : Int) else lo) ins
  else if 0 ≤ n then (if n < (i : Int) then cutLoop loop (i + 1) xs ns (at_ ++ [at_.getD n.toNat tI.dflt]) f (if (i : Int) = loop then (ins.length : Int) else lo) ins else none) else none
 | _, _, _, at_, f, lo, ins => some (at_, f, lo, ins)
def noT : ETrace := (0, 0, 0, [], [], (0, 0, [], []), (0, 0, [], []))
def endF (t : ETrace) (at_ : List Int) (f : Bool) (lo : Int) (ins : List EIns) (xs : List EExit) (k : Nat) : ETrace × Int := if (f && ((t.2.2.2.2.1.drop k).all (cutExitOk at_) && (cutExitOk at_ t.2.2.2.2.2.1 && cutExitOk at_ t.2.2.2.2.2.2))) = true then ((t.1, t.2.1, lo, ins, xs ++ (t.2.2.2.2.1.drop k).map (cutExit at_), cutExit at_ t.2.2.2.2.2.1, cutExit at_ t.2.2.2.2.2.2), 0) else (noT, 3)
section
variable {t : ETrace} {at_ : List Int} {f : Bool} {lo : Int} {ins : List EIns} {xs : List EExit} {k : Nat}
theorem endF_t (hk : t.2.2.2.2.1.length ≤ k) (h : ((f && cutExitOk at_ t.2.2.2.2.2.1) && cutExitOk at_ t.2.2.2.2.2.2) = true) : endF t at_ f lo ins xs k = ((t.1, t.2.1, lo, ins, xs, cutExit at_ t.2.2.2.2.2.1, cutExit at_ t.2.2.2.2.2.2), 0) := by
 unfold endF
 rw [List.drop_eq_nil_of_le hk, List.all_nil, Bool.true_and, ← Bool.and_assoc, if_pos h, List.map_nil, List.append_nil]
theorem endF_f (hk : t.2.2.2.2.1.length ≤ k) (h : ((f && cutExitOk at_ t.2.2.2.2.2.1) && cutExitOk at_ t.2.2.2.2.2.2) = false) : endF t at_ f lo ins xs k = (noT, 3) := by
 unfold endF
 rw [List.drop_eq_nil_of_le hk, List.all_nil, Bool.true_and, ← Bool.and_assoc, if_neg (by rw [h]; decide)]
theorem endF_step (hk : k < t.2.2.2.2.1.length) : endF t at_ f lo ins xs k = endF t at_ (f && cutExitOk at_ (t.2.2.2.2.1.getD k tExit.dflt)) lo ins (xs ++ [cutExit at_ (t.2.2.2.2.1.getD k tExit.dflt)]) (k + 1) := by
 unfold endF
 rw [dropCons (α := EExit) (Ty.dflt tExit) hk, List.all_cons, List.map_cons, List.append_cons]
 simp only [Bool.and_assoc]
end
def cutEnd (t : ETrace) (at_ : List Int) (f : Bool) (lo : Int) (ins : List EIns) : ETrace × Int := endF t at_ f lo ins [] 0
def loopAt (t : ETrace) (lo : Int) (n : Nat) : Int := if t.2.2.1 ≤ 0 then 0 else if (t.2.2.2.1.length : Int) ≤ t.2.2.1 then (n : Int) else lo
def cutThen (t : ETrace) : Option (List Int × Bool × Int × List EIns) → ETrace × Int
 | none => (noT, 3)
 | some r => cutEnd t r.1 r.2.1 (loopAt t r.2.2.1 r.2.2.2.length) r.2.2.2
def cutF (t : ETrace) (to : List Int) : ETrace × Int := if to.length = t.2.2.2.1.length then cutThen t (cutLoop t.2.2.1 0 t.2.2.2.1 to [] true 0 []) else (noT, 3)
def traceSm (t : ETrace) : Prop := t.2.2.2.1.length ≤ 1000000 ∧ (t.2.2.2.2.1.length ≤ 1000000 ∧ ∀ x ∈ t.2.2.2.2.1, exitSm x) ∧ exitSm t.2.2.2.2.2.1 ∧ exitSm t.2.2.2.2.2.2
noncomputable def oc23 : Orc where
 pure := fun f args => match f, args with
  | _, _ => none
 heap := fun f args H => match f, args with
  | 48, [.one (.c (.ptr b0 0 0 0)), a1] => match cellsAs 97 H[b0]? with
   | some [.osl b1 1 _, c0_1] => (match dA tIns a1, dC .bool c0_1, ovecAs 3 tI H[b1]? with
    | some x1, some y0_1, some y1 => hres [b0, b1] H (.agg (Ty.enc tIns (cutIns y1 x1))) [.cells 97 [.osl 1 1 y1.length, .bool (y0_1 && cutInsOk y1 x1)], .ovec 3 tI y1]
    | _, _, _ => none)
   | _ => none
  | 49, [.one (.c (.ptr b0 0 0 0)), a1] => match cellsAs 97 H[b0]? with
   | some [.osl b1 1 _, c0_1] => (match dA tExit a1, dC .bool c0_1, ovecAs 3 tI H[b1]? with
    | some x1, some y0_1, some y1 => hres [b0, b1] H (.agg (Ty.enc tExit (cutExit y1 x1))) [.cells 97 [.osl 1 1 y1.length, .bool (y0_1 && cutExitOk y1 x1)], .ovec 3 tI y1]
    | _, _, _ => none)
   | _ => none
  | _, _ => none
def cut_lv : LV := ⟨(false :: true :: true :: false :: true :: false :: true :: true :: F16 (F4 (true :: true :: true :: F32 (F32 (F16 (F8 (F4 (false :: true :: true :: true :: F16 (F8 (F4 (false :: []))))))))))), [24]⟩
abbrev bCm8 : AB := .cells 29 [.int .i64 0, .int .i64 0, .int .i64 0, .nilsl, .nilsl, .int .i64 0, .int .i64 0, .nilsl, .nilsl, .int .i64 0, .int .i64 0, .nilsl, .nilsl]
abbrev bCm9 : List CV := [.int .i64 0, .int .i64 0, .int .i64 0, .nilsl, .nilsl, .int .i64 0, .int .i64 0, .nilsl, .nilsl, .int .i64 0, .int .i64 0, .nilsl, .nilsl]
noncomputable def cut_T (t : ETrace) (to : List Int) : Tree :=
 .ite ((!(decide ((to.length : Int) = (t.2.2.2.1.length : Int)))))
 (.ret (.tup [.agg bCm9, .c (.int .i64 3)]) [.cells 29 (Ty.enc tTrace t), bCm8])
 (.stop (lp (bodyOf Tryd.f22) 0) (.junk :: .c (.ro tI to) :: .c (.ptr 0 0 0 0) :: .junk :: .c (.ptr 1 0 0 0) :: .junk :: .c (.ptr 2 0 0 0) :: .c (.ptr 3 0 0 0) :: J16 (J4 (.c (.ro tIns t.2.2.2.1) :: .c (.int .i64 (t.2.2.2.1.length : Int)) :: .c (.int .i64 0) :: J32 (J32 (J32 (J16 (J8 (J4 (.junk :: []))))))))) [.cells 29 (Ty.enc tTrace t), bCm8, .cells 97 [.nilsl, .lit true], .cells 29 [.int .i64 t.1, .int .i64 t.2.1, .int .i64 0, .nilsl, .nilsl, .int .i64 0, .int .i64 0, .nilsl, .nilsl, .int .i64 0, .int .i64 0, .nilsl, .nilsl]])
theorem cut_T_ok (t : ETrace) (to : List Int) : aRun Tryd.prog oc23 Tryd.f22 cut_lv 3000 [.code (bodyOf Tryd.f22)] ([.agg (tTrace.enc t), .c (.ro tI to)] ++ List.replicate (Func.ntmps Tryd.f22 - 2) .junk) [] = cut_T t to := by kernel_rfl
abbrev bCm1 (t : ETrace) (i : Nat) : AB := .cells 46 [.int .i64 (t.2.2.2.1.getD i tIns.dflt).1, .int .i64 (t.2.2.2.1.getD i tIns.dflt).2.1, .int .i64 (t.2.2.2.1.getD i tIns.dflt).2.2.1, .int .i64 (t.2.2.2.1.getD i tIns.dflt).2.2.2.1, .int .i64 (t.2.2.2.1.getD i tIns.dflt).2.2.2.2.1, .int .i64 (t.2.2.2.1.getD i tIns.dflt).2.2.2.2.2.1, .int .i64 (t.2.2.2.1.getD i tIns.dflt).2.2.2.2.2.2.1, .int .i64 (t.2.2.2.1.getD i tIns.dflt).2.2.2.2.2.2.2]
abbrev bCm3 (t : ETrace) (ins : List EIns) : AB := .cells 29 [.int .i64 t.1, .int .i64 t.2.1, .int .i64 ((ins.length : Nat) : Int), .osl 5 8 ins.length, .nilsl, .int .i64 0, .int .i64 0, .nilsl, .nilsl, .int .i64 0, .int .i64 0, .nilsl, .nilsl]
abbrev bCm5 (t : ETrace) (lo : Int) (ins : List EIns) : AB := .cells 29 [.int .i64 t.1, .int .i64 t.2.1, .int .i64 lo, .osl 5 8 ins.length, .nilsl, .int .i64 0, .int .i64 0, .nilsl, .nilsl, .int .i64 0, .int .i64 0, .nilsl, .nilsl]
abbrev bCm6 (t : ETrace) (i : Nat) : List AV := (J4 (.c (.ro tIns t.2.2.2.1) :: .c (.int .i64 (t.2.2.2.1.length : Int)) :: .c (.int .i64 (((i : Nat) : Int) + 1)) :: J32 (J32 (J32 (J16 (J8 (J4 (.junk :: []))))))))
abbrev bCm7 (t : ETrace) (i : Nat) : List AV := (J4 (.c (.ro tIns t.2.2.2.1) :: .c (.int .i64 (t.2.2.2.1.length : Int)) :: .c (.int .i64 ((i : Nat) : Int)) :: J32 (J32 (J32 (J16 (J8 (J4 (.junk :: []))))))))
noncomputable def cut_l0_R (t : ETrace) (to : List Int) (i : Nat) (f : Bool) (lo : Int) (at_ : List Int) (ins : List EIns) : Tree :=
 .ite (decide (((i : Nat) : Int) < (t.2.2.2.1.length : Int)))
 (.need ((0 : Int) ≤ ((i : Nat) : Int) ∧ (((i : Nat) : Int) : Int) < (t.2.2.2.1.length : Int)) <|
  .need (i < t.2.2.2.1.length) <|
  .ite (decide (((i : Nat) : Int) = t.2.2.1))
  (.need ((0 : Int) ≤ ((i : Nat) : Int) ∧ (((i : Nat) : Int) : Int) < (to.length : Int)) <|
  .need (i < to.length) <|
  .ite (decide ((to.getD i tI.dflt) = ((i : Nat) : Int)))
  (.need (at_.length = at_.length) <|
   .need (0 = 0 ∧ 1 = ([((ins.length : Nat) : Int)]).length) <|
   .need ((at_.length + ([((ins.length : Nat) : Int)]).length) * 8 ≤ 140737488355328) <|
   .callH 48 [.c (.ptr 2 0 0 0), .agg [.int .i64 (t.2.2.2.1.getD i tIns.dflt).1, .int .i64 (t.2.2.2.1.getD i tIns.dflt).2.1, .int .i64 (t.2.2.2.1.getD i tIns.dflt).2.2.1, .int .i64 (t.2.2.2.1.getD i tIns.dflt).2.2.2.1, .int .i64 (t.2.2.2.1.getD i tIns.dflt).2.2.2.2.1, .int .i64 (t.2.2.2.1.getD i tIns.dflt).2.2.2.2.2.1, .int .i64 (t.2.2.2.1.getD i tIns.dflt).2.2.2.2.2.2.1, .int .i64 (t.2.2.2.1.getD i tIns.dflt).2.2.2.2.2.2.2]] [.cells 29 (Ty.enc tTrace t), bCm8, .cells 97 [.osl 8 1 (at_ ++ [((ins.length : Nat) : Int)]).length, .bool f], (bCm3 t ins), .dead, .ovec 46 tIns ins, (bCm1 t i), .vec 3 tI ([((ins.length : Nat) : Int)]), .ovec 3 tI (at_ ++ [((ins.length : Nat) : Int)])] (.agg [.int .i64 (cutIns (at_ ++ [((ins.length : Nat) : Int)]) (t.2.2.2.1.getD i tIns.dflt)).1, .int .i64 (cutIns (at_ ++ [((ins.length : Nat) : Int)]) (t.2.2.2.1.getD i tIns.dflt)).2.1, .int .i64 (cutIns (at_ ++ [((ins.length : Nat) : Int)]) (t.2.2.2.1.getD i tIns.dflt)).2.2.1, .int .i64 (cutIns (at_ ++ [((ins.length : Nat) : Int)]) (t.2.2.2.1.getD i tIns.dflt)).2.2.2.1, .int .i64 (cutIns (at_ ++ [((ins.length : Nat) : Int)]) (t.2.2.2.1.getD i tIns.dflt)).2.2.2.2.1, .int .i64 (cutIns (at_ ++ [((ins.length : Nat) : Int)]) (t.2.2.2.1.getD i tIns.dflt)).2.2.2.2.2.1, .int .i64 (cutIns (at_ ++ [((ins.length : Nat) : Int)]) (t.2.2.2.1.getD i tIns.dflt)).2.2.2.2.2.2.1, .int .i64 (cutIns (at_ ++ [((ins.length : Nat) : Int)]) (t.2.2.2.1.getD i tIns.dflt)).2.2.2.2.2.2.2]) [.cells 29 (Ty.enc tTrace t), bCm8, .cells 97 [.osl 8 1 (at_ ++ [((ins.length : Nat) : Int)]).length, .bool (f && cutInsOk (at_ ++ [((ins.length : Nat) : Int)]) (t.2.2.2.1.getD i tIns.dflt))], (bCm3 t ins), .dead, .ovec 46 tIns ins, (bCm1 t i), .vec 3 tI ([((ins.length : Nat) : Int)]), .ovec 3 tI (at_ ++ [((ins.length : Nat) : Int)])] [2, 8] <|
   .need (ins.length = ins.length) <|
   .need (0 = 0 ∧ 1 = ([(cutIns (at_ ++ [((ins.length : Nat) : Int)]) (t.2.2.2.1.getD i tIns.dflt))]).length) <|
   .need ((ins.length + ([(cutIns (at_ ++ [((ins.length : Nat) : Int)]) (t.2.2.2.1.getD i tIns.dflt))]).length) * 64 ≤ 140737488355328) <|
   .need (inR .i64 (((i : Nat) : Int) + 1)) <|
   .stop (lp (bodyOf Tryd.f22) 0) (.junk :: .c (.ro tI to) :: .c (.ptr 0 0 0 0) :: .junk :: .c (.ptr 1 0 0 0) :: .junk :: .c (.ptr 2 0 0 0) :: .c (.ptr 3 0 0 0) :: J16 (bCm6 t i)) [.cells 29 (Ty.enc tTrace t), bCm8, .cells 97 [.osl 8 1 (at_ ++ [((ins.length : Nat) : Int)]).length, .bool (f && cutInsOk (at_ ++ [((ins.length : Nat) : Int)]) (t.2.2.2.1.getD i tIns.dflt))], .cells 29 [.int .i64 t.1, .int .i64 t.2.1, .int .i64 ((ins.length : Nat) : Int), .osl 10 8 (ins ++ [(cutIns (at_ ++ [((ins.length : Nat) : Int)]) (t.2.2.2.1.getD i tIns.dflt))]).length, .nilsl, .int .i64 0, .int .i64 0, .nilsl, .nilsl, .int .i64 0, .int .i64 0, .nilsl, .nilsl], .dead, .dead, (bCm1 t i), .vec 3 tI ([((ins.length : Nat) : Int)]), .ovec 3 tI (at_ ++ [((ins.length : Nat) : Int)]), .vec 46 tIns ([(cutIns (at_ ++ [((ins.length : Nat) : Int)]) (t.2.2.2.1.getD i tIns.dflt))]), .ovec 46 tIns (ins ++ [(cutIns (at_ ++ [((ins.length : Nat) : Int)]) (t.2.2.2.1.getD i tIns.dflt))])])
  (.ite (decide ((to.getD i tI.dflt) = (-1)))
   (.need (at_.length = at_.length) <|
   .need (0 = 0 ∧ 1 = ([(-1)]).length) <|
   .need ((at_.length + ([(-1)]).length) * 8 ≤ 140737488355328) <|
   .need (inR .i64 (((i : Nat) : Int) + 1)) <|
   .stop (lp (bodyOf Tryd.f22) 0) (.junk :: .c (.ro tI to) :: .c (.ptr 0 0 0 0) :: .junk :: .c (.ptr 1 0 0 0) :: .junk :: .c (.ptr 2 0 0 0) :: .c (.ptr 3 0 0 0) :: J16 (bCm6 t i)) [.cells 29 (Ty.enc tTrace t), bCm8, .cells 97 [.osl 8 1 (at_ ++ [(-1)]).length, .bool f], (bCm3 t ins), .dead, .ovec 46 tIns ins, (bCm1 t i), .vec 3 tI ([(-1)]), .ovec 3 tI (at_ ++ [(-1)])])
   (.ite (decide ((0 : Int) ≤ (to.getD i tI.dflt)))
   (.ite (decide ((to.getD i tI.dflt) < ((i : Nat) : Int)))
    (.need ((0 : Int) ≤ (to.getD i tI.dflt) ∧ ((to.getD i tI.dflt) : Int) < ((at_.length : Nat) : Int)) <|
    .need ((Int.toNat (to.getD i tI.dflt)) < at_.length) <|
    .need (at_.length = at_.length) <|
    .need (0 = 0 ∧ 1 = ([(at_.getD (Int.toNat (to.getD i tI.dflt)) tI.dflt)]).length) <|
    .need ((at_.length + ([(at_.getD (Int.toNat (to.getD i tI.dflt)) tI.dflt)]).length) * 8 ≤ 140737488355328) <|
    .need (inR .i64 (((i : Nat) : Int) + 1)) <|
    .stop (lp (bodyOf Tryd.f22) 0) (.junk :: .c (.ro tI to) :: .c (.ptr 0 0 0 0) :: .junk :: .c (.ptr 1 0 0 0) :: .junk :: .c (.ptr 2 0 0 0) :: .c (.ptr 3 0 0 0) :: J16 (bCm6 t i)) [.cells 29 (Ty.enc tTrace t), bCm8, .cells 97 [.osl 8 1 (at_ ++ [(at_.getD (Int.toNat (to.getD i tI.dflt)) tI.dflt)]).length, .bool f], (bCm3 t ins), .dead, .ovec 46 tIns ins, (bCm1 t i), .vec 3 tI ([(at_.getD (Int.toNat (to.getD i tI.dflt)) tI.dflt)]), .ovec 3 tI (at_ ++ [(at_.getD (Int.toNat (to.getD i tI.dflt)) tI.dflt)])])
    (.ret (.tup [.agg bCm9, .c (.int .i64 3)]) [.cells 29 (Ty.enc tTrace t), bCm8, .cells 97 [.osl 4 1 at_.length, .bool f], (bCm3 t ins), .ovec 3 tI at_, .ovec 46 tIns ins, (bCm1 t i)]))
   (.ret (.tup [.agg bCm9, .c (.int .i64 3)]) [.cells 29 (Ty.enc tTrace t), bCm8, .cells 97 [.osl 4 1 at_.length, .bool f], (bCm3 t ins), .ovec 3 tI at_, .ovec 46 tIns ins, (bCm1 t i)]))))
  (.need ((0 : Int) ≤ ((i : Nat) : Int) ∧ (((i : Nat) : Int) : Int) < (to.length : Int)) <|
  .need (i < to.length) <|
  .ite (decide ((to.getD i tI.dflt) = ((i : Nat) : Int)))
  (.need (at_.length = at_.length) <|
   .need (0 = 0 ∧ 1 = ([((ins.length : Nat) : Int)]).length) <|
   .need ((at_.length + ([((ins.length : Nat) : Int)]).length) * 8 ≤ 140737488355328) <|
   .callH 48 [.c (.ptr 2 0 0 0), .agg [.int .i64 (t.2.2.2.1.getD i tIns.dflt).1, .int .i64 (t.2.2.2.1.getD i tIns.dflt).2.1, .int .i64 (t.2.2.2.1.getD i tIns.dflt).2.2.1, .int .i64 (t.2.2.2.1.getD i tIns.dflt).2.2.2.1, .int .i64 (t.2.2.2.1.getD i tIns.dflt).2.2.2.2.1, .int .i64 (t.2.2.2.1.getD i tIns.dflt).2.2.2.2.2.1, .int .i64 (t.2.2.2.1.getD i tIns.dflt).2.2.2.2.2.2.1, .int .i64 (t.2.2.2.1.getD i tIns.dflt).2.2.2.2.2.2.2]] [.cells 29 (Ty.enc tTrace t), bCm8, .cells 97 [.osl 8 1 (at_ ++ [((ins.length : Nat) : Int)]).length, .bool f], (bCm5 t lo ins), .dead, .ovec 46 tIns ins, (bCm1 t i), .vec 3 tI ([((ins.length : Nat) : Int)]), .ovec 3 tI (at_ ++ [((ins.length : Nat) : Int)])] (.agg [.int .i64 (cutIns (at_ ++ [((ins.length : Nat) : Int)]) (t.2.2.2.1.getD i tIns.dflt)).1, .int .i64 (cutIns (at_ ++ [((ins.length : Nat) : Int)]) (t.2.2.2.1.getD i tIns.dflt)).2.1, .int .i64 (cutIns (at_ ++ [((ins.length : Nat) : Int)]) (t.2.2.2.1.getD i tIns.dflt)).2.2.1, .int .i64 (cutIns (at_ ++ [((ins.length : Nat) : Int)]) (t.2.2.2.1.getD i tIns.dflt)).2.2.2.1, .int .i64 (cutIns (at_ ++ [((ins.length : Nat) : Int)]) (t.2.2.2.1.getD i tIns.dflt)).2.2.2.2.1, .int .i64 (cutIns (at_ ++ [((ins.length : Nat) : Int)]) (t.2.2.2.1.getD i tIns.dflt)).2.2.2.2.2.1, .int .i64 (cutIns (at_ ++ [((ins.length : Nat) : Int)]) (t.2.2.2.1.getD i tIns.dflt)).2.2.2.2.2.2.1, .int .i64 (cutIns (at_ ++ [((ins.length : Nat) : Int)]) (t.2.2.2.1.getD i tIns.dflt)).2.2.2.2.2.2.2]) [.cells 29 (Ty.enc tTrace t), bCm8, .cells 97 [.osl 8 1 (at_ ++ [((ins.length : Nat) : Int)]).length, .bool (f && cutInsOk (at_ ++ [((ins.length : Nat) : Int)]) (t.2.2.2.1.getD i tIns.dflt))], (bCm5 t lo ins), .dead, .ovec 46 tIns ins, (bCm1 t i), .vec 3 tI ([((ins.length : Nat) : Int)]), .ovec 3 tI (at_ ++ [((ins.length : Nat) : Int)])] [2, 8] <|
   .need (ins.length = ins.length) <|
   .need (0 = 0 ∧ 1 = ([(cutIns (at_ ++ [((ins.length : Nat) : Int)]) (t.2.2.2.1.getD i tIns.dflt))]).length) <|
   .need ((ins.length + ([(cutIns (at_ ++ [((ins.length : Nat) : Int)]) (t.2.2.2.1.getD i tIns.dflt))]).length) * 64 ≤ 140737488355328) <|
   .need (inR .i64 (((i : Nat) : Int) + 1)) <|
   .stop (lp (bodyOf Tryd.f22) 0) (.junk :: .c (.ro tI to) :: .c (.ptr 0 0 0 0) :: .junk :: .c (.ptr 1 0 0 0) :: .junk :: .c (.ptr 2 0 0 0) :: .c (.ptr 3 0 0 0) :: J16 (bCm6 t i)) [.cells 29 (Ty.enc tTrace t), bCm8, .cells 97 [.osl 8 1 (at_ ++ [((ins.length : Nat) : Int)]).length, .bool (f && cutInsOk (at_ ++ [((ins.length : Nat) : Int)]) (t.2.2.2.1.getD i tIns.dflt))], .cells 29 [.int .i64 t.1, .int .i64 t.2.1, .int .i64 lo, .osl 10 8 (ins ++ [(cutIns (at_ ++ [((ins.length : Nat) : Int)]) (t.2.2.2.1.getD i tIns.dflt))]).length, .nilsl, .int .i64 0, .int .i64 0, .nilsl, .nilsl, .int .i64 0, .int .i64 0, .nilsl, .nilsl], .dead, .dead, (bCm1 t i), .vec 3 tI ([((ins.length : Nat) : Int)]), .ovec 3 tI (at_ ++ [((ins.length : Nat) : Int)]), .vec 46 tIns ([(cutIns (at_ ++ [((ins.length : Nat) : Int)]) (t.2.2.2.1.getD i tIns.dflt))]), .ovec 46 tIns (ins ++ [(cutIns (at_ ++ [((ins.length : Nat) : Int)]) (t.2.2.2.1.getD i tIns.dflt))])])
  (.ite (decide ((to.getD i tI.dflt) = (-1)))
   (.need (at_.length = at_.length) <|
   .need (0 = 0 ∧ 1 = ([(-1)]).length) <|
   .need ((at_.length + ([(-1)]).length) * 8 ≤ 140737488355328) <|
   .need (inR .i64 (((i : Nat) : Int) + 1)) <|
   .stop (lp (bodyOf Tryd.f22) 0) (.junk :: .c (.ro tI to) :: .c (.ptr 0 0 0 0) :: .junk :: .c (.ptr 1 0 0 0) :: .junk :: .c (.ptr 2 0 0 0) :: .c (.ptr 3 0 0 0) :: J16 (bCm6 t i)) [.cells 29 (Ty.enc tTrace t), bCm8, .cells 97 [.osl 8 1 (at_ ++ [(-1)]).length, .bool f], (bCm5 t lo ins), .dead, .ovec 46 tIns ins, (bCm1 t i), .vec 3 tI ([(-1)]), .ovec 3 tI (at_ ++ [(-1)])])
   (.ite (decide ((0 : Int) ≤ (to.getD i tI.dflt)))
   (.ite (decide ((to.getD i tI.dflt) < ((i : Nat) : Int)))
    (.need ((0 : Int) ≤ (to.getD i tI.dflt) ∧ ((to.getD i tI.dflt) : Int) < ((at_.length : Nat) : Int)) <|
    .need ((Int.toNat (to.getD i tI.dflt)) < at_.length) <|
    .need (at_.length = at_.length) <|
    .need (0 = 0 ∧ 1 = ([(at_.getD (Int.toNat (to.getD i tI.dflt)) tI.dflt)]).length) <|
    .need ((at_.length + ([(at_.getD (Int.toNat (to.getD i tI.dflt)) tI.dflt)]).length) * 8 ≤ 140737488355328) <|
    .need (inR .i64 (((i : Nat) : Int) + 1)) <|
    .stop (lp (bodyOf Tryd.f22) 0) (.junk :: .c (.ro tI to) :: .c (.ptr 0 0 0 0) :: .junk :: .c (.ptr 1 0 0 0) :: .junk :: .c (.ptr 2 0 0 0) :: .c (.ptr 3 0 0 0) :: J16 (bCm6 t i)) [.cells 29 (Ty.enc tTrace t), bCm8, .cells 97 [.osl 8 1 (at_ ++ [(at_.getD (Int.toNat (to.getD i tI.dflt)) tI.dflt)]).length, .bool f], (bCm5 t lo ins), .dead, .ovec 46 tIns ins, (bCm1 t i), .vec 3 tI ([(at_.getD (Int.toNat (to.getD i tI.dflt)) tI.dflt)]), .ovec 3 tI (at_ ++ [(at_.getD (Int.toNat (to.getD i tI.dflt)) tI.dflt)])])
    (.ret (.tup [.agg bCm9, .c (.int .i64 3)]) [.cells 29 (Ty.enc tTrace t), bCm8, .cells 97 [.osl 4 1 at_.length, .bool f], (bCm5 t lo ins), .ovec 3 tI at_, .ovec 46 tIns ins, (bCm1 t i)]))
   (.ret (.tup [.agg bCm9, .c (.int .i64 3)]) [.cells 29 (Ty.enc tTrace t), bCm8, .cells 97 [.osl 4 1 at_.length, .bool f], (bCm5 t lo ins), .ovec 3 tI at_, .ovec 46 tIns ins, (bCm1 t i)])))))
 (.ite (decide ((t.2.2.2.1.length : Int) ≤ t.2.2.1))
  (.ite (decide (t.2.2.1 ≤ 0))
  (.stop (rg (bodyOf Tryd.f22) 24) (.junk :: .c (.ro tI to) :: .c (.ptr 0 0 0 0) :: .junk :: .c (.ptr 1 0 0 0) :: .junk :: .c (.ptr 2 0 0 0) :: .c (.ptr 3 0 0 0) :: J16 (bCm7 t i)) [.cells 29 (Ty.enc tTrace t), bCm8, .cells 97 [.osl 4 1 at_.length, .bool f], .cells 29 [.int .i64 t.1, .int .i64 t.2.1, .int .i64 0, .osl 5 8 ins.length, .nilsl, .int .i64 0, .int .i64 0, .nilsl, .nilsl, .int .i64 0, .int .i64 0, .nilsl, .nilsl], .ovec 3 tI at_, .ovec 46 tIns ins])
  (.stop (rg (bodyOf Tryd.f22) 24) (.junk :: .c (.ro tI to) :: .c (.ptr 0 0 0 0) :: .junk :: .c (.ptr 1 0 0 0) :: .junk :: .c (.ptr 2 0 0 0) :: .c (.ptr 3 0 0 0) :: J16 (bCm7 t i)) [.cells 29 (Ty.enc tTrace t), bCm8, .cells 97 [.osl 4 1 at_.length, .bool f], (bCm3 t ins), .ovec 3 tI at_, .ovec 46 tIns ins]))
  (.ite (decide (t.2.2.1 ≤ 0))
  (.stop (rg (bodyOf Tryd.f22) 24) (.junk :: .c (.ro tI to) :: .c (.ptr 0 0 0 0) :: .junk :: .c (.ptr 1 0 0 0) :: .junk :: .c (.ptr 2 0 0 0) :: .c (.ptr 3 0 0 0) :: J16 (bCm7 t i)) [.cells 29 (Ty.enc tTrace t), bCm8, .cells 97 [.osl 4 1 at_.length, .bool f], .cells 29 [.int .i64 t.1, .int .i64 t.2.1, .int .i64 0, .osl 5 8 ins.length, .nilsl, .int .i64 0, .int .i64 0, .nilsl, .nilsl, .int .i64 0, .int .i64 0, .nilsl, .nilsl], .ovec 3 tI at_, .ovec 46 tIns ins])
  (.stop (rg (bodyOf Tryd.f22) 24) (.junk :: .c (.ro tI to) :: .c (.ptr 0 0 0 0) :: .junk :: .c (.ptr 1 0 0 0) :: .junk :: .c (.ptr 2 0 0 0) :: .c (.ptr 3 0 0 0) :: J16 (bCm7 t i)) [.cells 29 (Ty.enc tTrace t), bCm8, .cells 97 [.osl 4 1 at_.length, .bool f], (bCm5 t lo ins), .ovec 3 tI at_, .ovec 46 tIns ins])))
theorem cut_l0_R_ok (t : ETrace) (to : List Int) (i : Nat) (f : Bool) (lo : Int) (at_ : List Int) (ins : List EIns) : aRound Tryd.prog oc23 Tryd.f22 cut_lv 3000 (lp (bodyOf Tryd.f22) 0) (.junk :: .c (.ro tI to) :: .c (.ptr 0 0 0 0) :: .junk :: .c (.ptr 1 0 0 0) :: .junk :: .c (.ptr 2 0 0 0) :: .c (.ptr 3 0 0 0) :: J16 (bCm7 t i)) [.cells 29 (Ty.enc tTrace t), bCm8, .cells 97 [.osl 4 1 at_.length, .bool f], (bCm5 t lo ins), .ovec 3 tI at_, .ovec 46 tIns ins] = cut_l0_R t to i f lo at_ ins := by kernel_rfl
noncomputable def cut_r24_R (t : ETrace) (to : List Int) (f : Bool) (lo : Int) (at_ : List Int) (ins : List EIns) : Tree :=
 .stop (lp (bodyOf Tryd.f22) 1) (J2 (.c (.ptr 0 0 0 0) :: .junk :: .c (.ptr 1 0 0 0) :: .junk :: .c (.ptr 2 0 0 0) :: .c (.ptr 3 0 0 0) :: J32 (J32 (J32 (J16 (J4 (.c (.ro tExit t.2.2.2.2.1) :: .c (.int .i64 (t.2.2.2.2.1.length : Int)) :: .c (.int .i64 0) :: J16 (J8 (J4 (.junk :: [])))))))))) [.cells 29 (Ty.enc tTrace t), bCm8, .cells 97 [.osl 4 1 at_.length, .bool f], (bCm5 t lo ins), .ovec 3 tI at_, .ovec 46 tIns ins]
theorem cut_r24_R_ok (t : ETrace) (to : List Int) (f : Bool) (lo : Int) (at_ : List Int) (ins : List EIns) : aRound Tryd.prog oc23 Tryd.f22 cut_lv 3000 (rg (bodyOf Tryd.f22) 24) (J2 (.c (.ptr 0 0 0 0) :: .junk :: .c (.ptr 1 0 0 0) :: .junk :: .c (.ptr 2 0 0 0) :: .c (.ptr 3 0 0 0) :: J32 (J32 (J32 (J32 (J16 (J4 ([])))))))) [.cells 29 (Ty.enc tTrace t), bCm8, .cells 97 [.osl 4 1 at_.length, .bool f], (bCm5 t lo ins), .ovec 3 tI at_, .ovec 46 tIns ins] = cut_r24_R t to f lo at_ ins := by kernel_rfl
abbrev bCm0 (t : ETrace) (lo : Int) (ins : List EIns) (xs : List EExit) (at_ : List Int) : AB := .cells 29 [.int .i64 t.1, .int .i64 t.2.1, .int .i64 lo, .osl 5 8 ins.length, .osl 6 4 xs.length, .int .i64 (cutExit at_ t.2.2.2.2.2.1).1, .int .i64 (cutExit at_ t.2.2.2.2.2.1).2.1, .ro tVal (cutExit at_ t.2.2.2.2.2.1).2.2.1, .ro tMake (cutExit at_ t.2.2.2.2.2.1).2.2.2, .int .i64 (cutExit at_ t.2.2.2.2.2.2).1, .int .i64 (cutExit at_ t.2.2.2.2.2.2).2.1, .ro tVal (cutExit at_ t.2.2.2.2.2.2).2.2.1, .ro tMake (cutExit at_ t.2.2.2.2.2.2).2.2.2]
abbrev bCm2 (t : ETrace) (k : Nat) : AB := .cells 27 [.int .i64 (t.2.2.2.2.1.getD k tExit.dflt).1, .int .i64 (t.2.2.2.2.1.getD k tExit.dflt).2.1, .ro tVal (t.2.2.2.2.1.getD k tExit.dflt).2.2.1, .ro tMake (t.2.2.2.2.1.getD k tExit.dflt).2.2.2]
abbrev bCm4 (t : ETrace) (lo : Int) (ins : List EIns) (xs : List EExit) : AB := .cells 29 [.int .i64 t.1, .int .i64 t.2.1, .int .i64 lo, .osl 5 8 ins.length, .osl 6 4 xs.length, .int .i64 0, .int .i64 0, .nilsl, .nilsl, .int .i64 0, .int .i64 0, .nilsl, .nilsl]
noncomputable def cut_l1_R (t : ETrace) (to : List Int) (k : Nat) (f : Bool) (lo : Int) (at_ : List Int) (ins : List EIns) (xs : List EExit) : Tree :=
 .ite (decide (((k : Nat) : Int) < (t.2.2.2.2.1.length : Int)))
 (.need ((0 : Int) ≤ ((k : Nat) : Int) ∧ (((k : Nat) : Int) : Int) < (t.2.2.2.2.1.length : Int)) <|
  .need (k < t.2.2.2.2.1.length) <|
  .callH 49 [.c (.ptr 2 0 0 0), .agg [.int .i64 (t.2.2.2.2.1.getD k tExit.dflt).1, .int .i64 (t.2.2.2.2.1.getD k tExit.dflt).2.1, .ro tVal (t.2.2.2.2.1.getD k tExit.dflt).2.2.1, .ro tMake (t.2.2.2.2.1.getD k tExit.dflt).2.2.2]] [.cells 29 (Ty.enc tTrace t), bCm8, .cells 97 [.osl 4 1 at_.length, .bool f], (bCm4 t lo ins xs), .ovec 3 tI at_, .ovec 46 tIns ins, .ovec 27 tExit xs, (bCm2 t k)] (.agg [.int .i64 (cutExit at_ (t.2.2.2.2.1.getD k tExit.dflt)).1, .int .i64 (cutExit at_ (t.2.2.2.2.1.getD k tExit.dflt)).2.1, .ro tVal (cutExit at_ (t.2.2.2.2.1.getD k tExit.dflt)).2.2.1, .ro tMake (cutExit at_ (t.2.2.2.2.1.getD k tExit.dflt)).2.2.2]) [.cells 29 (Ty.enc tTrace t), bCm8, .cells 97 [.osl 4 1 at_.length, .bool (f && cutExitOk at_ (t.2.2.2.2.1.getD k tExit.dflt))], (bCm4 t lo ins xs), .ovec 3 tI at_, .ovec 46 tIns ins, .ovec 27 tExit xs, (bCm2 t k)] [2, 4] <|
  .need (xs.length = xs.length) <|
  .need (0 = 0 ∧ 1 = ([(cutExit at_ (t.2.2.2.2.1.getD k tExit.dflt))]).length) <|
  .need ((xs.length + ([(cutExit at_ (t.2.2.2.2.1.getD k tExit.dflt))]).length) * 64 ≤ 140737488355328) <|
  .need (inR .i64 (((k : Nat) : Int) + 1)) <|
  .stop (lp (bodyOf Tryd.f22) 1) (J2 (.c (.ptr 0 0 0 0) :: .junk :: .c (.ptr 1 0 0 0) :: .junk :: .c (.ptr 2 0 0 0) :: .c (.ptr 3 0 0 0) :: J32 (J32 (J32 (J16 (J4 (.c (.ro tExit t.2.2.2.2.1) :: .c (.int .i64 (t.2.2.2.2.1.length : Int)) :: .c (.int .i64 (((k : Nat) : Int) + 1)) :: J16 (J8 (J4 (.junk :: [])))))))))) [.cells 29 (Ty.enc tTrace t), bCm8, .cells 97 [.osl 4 1 at_.length, .bool (f && cutExitOk at_ (t.2.2.2.2.1.getD k tExit.dflt))], .cells 29 [.int .i64 t.1, .int .i64 t.2.1, .int .i64 lo, .osl 5 8 ins.length, .osl 9 4 (xs ++ [(cutExit at_ (t.2.2.2.2.1.getD k tExit.dflt))]).length, .int .i64 0, .int .i64 0, .nilsl, .nilsl, .int .i64 0, .int .i64 0, .nilsl, .nilsl], .ovec 3 tI at_, .ovec 46 tIns ins, .dead, (bCm2 t k), .vec 27 tExit ([(cutExit at_ (t.2.2.2.2.1.getD k tExit.dflt))]), .ovec 27 tExit (xs ++ [(cutExit at_ (t.2.2.2.2.1.getD k tExit.dflt))])])
 (.callH 49 [.c (.ptr 2 0 0 0), .agg [.int .i64 t.2.2.2.2.2.1.1, .int .i64 t.2.2.2.2.2.1.2.1, .ro tVal t.2.2.2.2.2.1.2.2.1, .ro tMake t.2.2.2.2.2.1.2.2.2]] [.cells 29 (Ty.enc tTrace t), bCm8, .cells 97 [.osl 4 1 at_.length, .bool f], (bCm4 t lo ins xs), .ovec 3 tI at_, .ovec 46 tIns ins, .ovec 27 tExit xs] (.agg [.int .i64 (cutExit at_ t.2.2.2.2.2.1).1, .int .i64 (cutExit at_ t.2.2.2.2.2.1).2.1, .ro tVal (cutExit at_ t.2.2.2.2.2.1).2.2.1, .ro tMake (cutExit at_ t.2.2.2.2.2.1).2.2.2]) [.cells 29 (Ty.enc tTrace t), bCm8, .cells 97 [.osl 4 1 at_.length, .bool (f && cutExitOk at_ t.2.2.2.2.2.1)], (bCm4 t lo ins xs), .ovec 3 tI at_, .ovec 46 tIns ins, .ovec 27 tExit xs] [2, 4] <|
  .callH 49 [.c (.ptr 2 0 0 0), .agg [.int .i64 t.2.2.2.2.2.2.1, .int .i64 t.2.2.2.2.2.2.2.1, .ro tVal t.2.2.2.2.2.2.2.2.1, .ro tMake t.2.2.2.2.2.2.2.2.2]] [.cells 29 (Ty.enc tTrace t), bCm8, .cells 97 [.osl 4 1 at_.length, .bool (f && cutExitOk at_ t.2.2.2.2.2.1)], (bCm4 t lo ins xs), .ovec 3 tI at_, .ovec 46 tIns ins, .ovec 27 tExit xs] (.agg [.int .i64 (cutExit at_ t.2.2.2.2.2.2).1, .int .i64 (cutExit at_ t.2.2.2.2.2.2).2.1, .ro tVal (cutExit at_ t.2.2.2.2.2.2).2.2.1, .ro tMake (cutExit at_ t.2.2.2.2.2.2).2.2.2]) [.cells 29 (Ty.enc tTrace t), bCm8, .cells 97 [.osl 4 1 at_.length, .bool ((f && cutExitOk at_ t.2.2.2.2.2.1) && cutExitOk at_ t.2.2.2.2.2.2)], (bCm4 t lo ins xs), .ovec 3 tI at_, .ovec 46 tIns ins, .ovec 27 tExit xs] [2, 4] <|
  .ite ((!((f && cutExitOk at_ t.2.2.2.2.2.1) && cutExitOk at_ t.2.2.2.2.2.2)))
  (.ret (.tup [.agg bCm9, .c (.int .i64 3)]) [.cells 29 (Ty.enc tTrace t), bCm8, .cells 97 [.osl 4 1 at_.length, .bool ((f && cutExitOk at_ t.2.2.2.2.2.1) && cutExitOk at_ t.2.2.2.2.2.2)], (bCm0 t lo ins xs at_), .ovec 3 tI at_, .ovec 46 tIns ins, .ovec 27 tExit xs])
  (.ret (.tup [.agg [.int .i64 t.1, .int .i64 t.2.1, .int .i64 lo, .osl 5 8 ins.length, .osl 6 4 xs.length, .int .i64 (cutExit at_ t.2.2.2.2.2.1).1, .int .i64 (cutExit at_ t.2.2.2.2.2.1).2.1, .ro tVal (cutExit at_ t.2.2.2.2.2.1).2.2.1, .ro tMake (cutExit at_ t.2.2.2.2.2.1).2.2.2, .int .i64 (cutExit at_ t.2.2.2.2.2.2).1, .int .i64 (cutExit at_ t.2.2.2.2.2.2).2.1, .ro tVal (cutExit at_ t.2.2.2.2.2.2).2.2.1, .ro tMake (cutExit at_ t.2.2.2.2.2.2).2.2.2], .c (.int .i64 0)]) [.cells 29 (Ty.enc tTrace t), (bCm0 t lo ins xs at_), .cells 97 [.osl 4 1 at_.length, .bool ((f && cutExitOk at_ t.2.2.2.2.2.1) && cutExitOk at_ t.2.2.2.2.2.2)], (bCm0 t lo ins xs at_), .ovec 3 tI at_, .ovec 46 tIns ins, .ovec 27 tExit xs]))
theorem cut_l1_R_ok (t : ETrace) (to : List Int) (k : Nat) (f : Bool) (lo : Int) (at_ : List Int) (ins : List EIns) (xs : List EExit) : aRound Tryd.prog oc23 Tryd.f22 cut_lv 3000 (lp (bodyOf Tryd.f22) 1) (J2 (.c (.ptr 0 0 0 0) :: .junk :: .c (.ptr 1 0 0 0) :: .junk :: .c (.ptr 2 0 0 0) :: .c (.ptr 3 0 0 0) :: J32 (J32 (J32 (J16 (J4 (.c (.ro tExit t.2.2.2.2.1) :: .c (.int .i64 (t.2.2.2.2.1.length : Int)) :: .c (.int .i64 ((k : Nat) : Int)) :: J16 (J8 (J4 (.junk :: [])))))))))) [.cells 29 (Ty.enc tTrace t), bCm8, .cells 97 [.osl 4 1 at_.length, .bool f], (bCm4 t lo ins xs), .ovec 3 tI at_, .ovec 46 tIns ins, .ovec 27 tExit xs] = cut_l1_R t to k f lo at_ ins xs := by kernel_rfl
theorem cut_l1 (t : ETrace) (to : List Int) (k : Nat) (f : Bool) (lo : Int) (at_ : List Int) (ins : List EIns) (xs : List EExit) (hs : traceSm t) (hx : xs.length ≤ k) : Run Tryd.prog 22 (retQ Tryd.prog (.tup [.agg (Ty.enc tTrace ((endF t at_ f lo ins xs k).1)), .c (.int .i64 ((endF t at_ f lo ins xs k).2))])) (lp (bodyOf Tryd.f22) 1) (J2 (.c (.ptr 0 0 0 0) :: .junk :: .c (.ptr 1 0 0 0) :: .junk :: .c (.ptr 2 0 0 0) :: .c (.ptr 3 0 0 0) :: J32 (J32 (J32 (J16 (J4 (.c (.ro tExit t.2.2.2.2.1) :: .c (.int .i64 (t.2.2.2.2.1.length : Int)) :: .c (.int .i64 ((k : Nat) : Int)) :: J16 (J8 (J4 (.junk :: [])))))))))) [.cells 29 (Ty.enc tTrace t), bCm8, .cells 97 [.osl 4 1 at_.length, .bool f], (bCm4 t lo ins xs), .ovec 3 tI at_, .ovec 46 tIns ins, .ovec 27 tExit xs] :=
 Run.roundA oc23 cut_lv 3000 Tryd.func22 mixed (cut_l1_R t to k f lo at_ ins xs) (cut_l1_R_ok t to k f lo at_ ins xs) (by
  unfold cut_l1_R
  refine g_iteD (fun h0 => ?_) (fun h0 => ?_)
  ·refine g_need (by omega) ?_
   refine g_need (by omega) ?_
   refine g_callH (AFunH.frameB [2, 4] (cexit_fun at_ f (t.2.2.2.2.1.getD k tExit.dflt) (by first | exact hs.2.2.1 | exact hs.2.2.2 | exact hs.2.1.2 _ (getD_mem (α := EExit) (Ty.dflt tExit) (by omega)))) rfl rfl rfl rfl rfl rfl rfl) ?_
   refine g_need (rfl) ?_
   refine g_need (⟨rfl, rfl⟩) ?_
   refine g_need (by first | omega | (constructor <;> omega) | (rw [i64_iff]; omega) | rfl | (have q1 := hs.1; have q2 := hs.2.1.1; (try simp only [List.length_cons, List.length_nil]); first | omega | (rw [i64_iff]; omega) | (constructor <;> omega))) ?_
   refine g_need (by first | omega | (constructor <;> omega) | (rw [i64_iff]; omega) | rfl | (have q1 := hs.1; have q2 := hs.2.1.1; (try simp only [List.length_cons, List.length_nil]); first | omega | (rw [i64_iff]; omega) | (constructor <;> omega))) ?_
   refine g_stop (RunN.keep [0, 1, 2, 3, 4, 5, 9] (F2 (true :: false :: true :: false :: true :: true :: F32 (F32 (F32 (F16 (F4 (true :: true :: true :: F16 (F8 (F4 (false :: [])))))))))) n0 (by decide) rfl rfl ?_)
   have ht := cut_l1 t to (k + 1) (f && cutExitOk at_ (t.2.2.2.2.1.getD k tExit.dflt)) lo at_ ins (xs ++ [(cutExit at_ (t.2.2.2.2.1.getD k tExit.dflt))]) hs (by simp; omega); rw [endF_step (by omega)]; exact ht
  ·refine g_callH (AFunH.frameB [2, 4] (cexit_fun at_ f t.2.2.2.2.2.1 (by first | exact hs.2.2.1 | exact hs.2.2.2 | exact hs.2.1.2 _ (getD_mem (α := EExit) (Ty.dflt tExit) (by omega)))) rfl rfl rfl rfl rfl rfl rfl) ?_
   refine g_callH (AFunH.frameB [2, 4] (cexit_fun at_ (f && cutExitOk at_ t.2.2.2.2.2.1) t.2.2.2.2.2.2 (by first | exact hs.2.2.1 | exact hs.2.2.2 | exact hs.2.1.2 _ (getD_mem (α := EExit) (Ty.dflt tExit) (by omega)))) rfl rfl rfl rfl rfl rfl rfl) ?_
   refine g_iteN (fun h1 => ?_) (fun h1 => ?_)
   ·first | rw [endF_t (by omega) (by assumption)] | rw [endF_f (by omega) (by assumption)]
    refine g_rq ?_
    exact g_rl (⟨⟨⟨rfl, rfl⟩, ⟨rfl, rfl⟩, ⟨rfl, rfl⟩, rfl, rfl, ⟨rfl, rfl⟩, ⟨rfl, rfl⟩, rfl, rfl, ⟨rfl, rfl⟩, ⟨rfl, rfl⟩, rfl, rfl, trivial⟩, ⟨rfl, rfl⟩, trivial⟩) rfl
   ·first | rw [endF_t (by omega) (by assumption)] | rw [endF_f (by omega) (by assumption)]
    refine g_rq ?_
    refine g_need (rfl) ?_
    refine g_need (rfl) ?_
    exact g_rl (⟨⟨⟨rfl, rfl⟩, ⟨rfl, rfl⟩, ⟨rfl, rfl⟩, ⟨rfl, rfl⟩, ⟨rfl, rfl⟩, ⟨rfl, rfl⟩, ⟨rfl, rfl⟩, ⟨rfl, rfl⟩, ⟨rfl, rfl⟩, ⟨rfl, rfl⟩, ⟨rfl, rfl⟩, ⟨rfl, rfl⟩, ⟨rfl, rfl⟩, trivial⟩, ⟨rfl, rfl⟩, trivial⟩) rfl
  )
 termination_by t.2.2.2.2.1.length - k
 decreasing_by all_goals omega
theorem cut_r24 (t : ETrace) (to : List Int) (f : Bool) (lo : Int) (at_ : List Int) (ins : List EIns) (hs : traceSm t) : Run Tryd.prog 22 (retQ Tryd.prog (.tup [.agg (Ty.enc tTrace ((cutEnd t at_ f lo ins).1)), .c (.int .i64 ((cutEnd t at_ f lo ins).2))])) (rg (bodyOf Tryd.f22) 24) (J2 (.c (.ptr 0 0 0 0) :: .junk :: .c (.ptr 1 0 0 0) :: .junk :: .c (.ptr 2 0 0 0) :: .c (.ptr 3 0 0 0) :: J32 (J32 (J32 (J32 (J16 (J4 ([])))))))) [.cells 29 (Ty.enc tTrace t), bCm8, .cells 97 [.osl 4 1 at_.length, .bool f], (bCm5 t lo ins), .ovec 3 tI at_, .ovec 46 tIns ins] :=
 Run.roundA oc23 cut_lv 3000 Tryd.func22 mixed (cut_r24_R t to f lo at_ ins) (cut_r24_R_ok t to f lo at_ ins) (by
  unfold cut_r24_R
  refine g_stop (RunN.keep [0, 1, 2, 3, 4, 5, 1006] (F2 (true :: false :: true :: false :: true :: true :: F32 (F32 (F32 (F16 (F4 (true :: true :: true :: F16 (F8 (F4 (false :: [])))))))))) n0 (by decide) rfl rfl ?_)
  refine RunN.less (env' := (J2 (.c (.ptr 0 0 0 0) :: .junk :: .c (.ptr 1 0 0 0) :: .junk :: .c (.ptr 2 0 0 0) :: .c (.ptr 3 0 0 0) :: J32 (J32 (J32 (J16 (J4 (.c (.ro tExit t.2.2.2.2.1) :: .c (.int .i64 (t.2.2.2.2.1.length : Int)) :: .c (.int .i64 ((0 : Nat) : Int)) :: J16 (J8 (J4 (.junk :: []))))))))))) (H' := [.cells 29 (Ty.enc tTrace t), bCm8, .cells 97 [.osl 4 1 at_.length, .bool f], .cells 29 [.int .i64 t.1, .int .i64 t.2.1, .int .i64 lo, .osl 5 8 ins.length, .osl 6 4 0, .int .i64 0, .int .i64 0, .nilsl, .nilsl, .int .i64 0, .int .i64 0, .nilsl, .nilsl], .ovec 3 tI at_, .ovec 46 tIns ins, .ovec 27 tExit ([])]) (leAVs.same rfl) (⟨leB.refl _, leB.refl _, leB.refl _, ⟨rfl, leC.refl _, leC.refl _, leC.refl _, leC.refl _, rfl, leC.refl _, leC.refl _, leC.refl _, leC.refl _, leC.refl _, leC.refl _, leC.refl _, leC.refl _, trivial⟩, leB.refl _, leB.refl _, rfl, trivial⟩) ?_
  exact cut_l1 t to 0 f lo at_ ins ([]) hs (by simp)
  )
theorem cut_l0 (t : ETrace) (to : List Int) (i : Nat) (f : Bool) (lo : Int) (at_ : List Int) (ins : List EIns) (hs : traceSm t) (hl : to.length = t.2.2.2.1.length) (ha : at_.length = i) (hi : ins.length ≤ i) : Run Tryd.prog 22 (retQ Tryd.prog (.tup [.agg (Ty.enc tTrace ((cutThen t (cutLoop t.2.2.1 i (t.2.2.2.1.drop i) (to.drop i) at_ f lo ins)).1)), .c (.int .i64 ((cutThen t (cutLoop t.2.2.1 i (t.2.2.2.1.drop i) (to.drop i) at_ f lo ins)).2))])) (lp (bodyOf Tryd.f22) 0) (.junk :: .c (.ro tI to) :: .c (.ptr 0 0 0 0) :: .junk :: .c (.ptr 1 0 0 0) :: .junk :: .c (.ptr 2 0 0 0) :: .c (.ptr 3 0 0 0) :: J16 (bCm7 t i)) [.cells 29 (Ty.enc tTrace t), bCm8, .cells 97 [.osl 4 1 at_.length, .bool f], (bCm5 t lo ins), .ovec 3 tI at_, .ovec 46 tIns ins] :=
 Run.roundA oc23 cut_lv 3000 Tryd.func22 mixed (cut_l0_R t to i f lo at_ ins) (cut_l0_R_ok t to i f lo at_ ins) (by
  unfold cut_l0_R
  refine g_iteD (fun h0 => ?_) (fun h0 => ?_)
  ·refine g_need (by omega) ?_
   refine g_need (by omega) ?_
   refine g_iteD (fun h1 => ?_) (fun h1 => ?_)
   ·refine g_need (by omega) ?_
    refine g_need (by omega) ?_
    refine g_iteD (fun h2 => ?_) (fun h2 => ?_)
    ·refine g_need (rfl) ?_
     refine g_need (⟨rfl, rfl⟩) ?_
     refine g_need (by first | omega | (constructor <;> omega) | (rw [i64_iff]; omega) | rfl | (have q1 := hs.1; have q2 := hs.2.1.1; (try simp only [List.length_cons, List.length_nil]); first | omega | (rw [i64_iff]; omega) | (constructor <;> omega))) ?_
     refine g_callH (AFunH.frameB [2, 8] (cins_fun (at_ ++ [((ins.length : Nat) : Int)]) f (t.2.2.2.1.getD i tIns.dflt)) rfl rfl rfl rfl rfl rfl rfl) ?_
     refine g_need (rfl) ?_
     refine g_need (⟨rfl, rfl⟩) ?_
     refine g_need (by first | omega | (constructor <;> omega) | (rw [i64_iff]; omega) | rfl | (have q1 := hs.1; have q2 := hs.2.1.1; (try simp only [List.length_cons, List.length_nil]); first | omega | (rw [i64_iff]; omega) | (constructor <;> omega))) ?_
     refine g_need (by first | omega | (constructor <;> omega) | (rw [i64_iff]; omega) | rfl | (have q1 := hs.1; have q2 := hs.2.1.1; (try simp only [List.length_cons, List.length_nil]); first | omega | (rw [i64_iff]; omega) | (constructor <;> omega))) ?_
     refine g_stop (RunN.keep [0, 1, 2, 3, 8, 10] (false :: true :: true :: false :: true :: false :: true :: true :: F16 (F4 (true :: true :: true :: F32 (F32 (F32 (F16 (F8 (F4 (false :: []))))))))) n0 (by decide) rfl rfl ?_)
     have ht := cut_l0 t to (i + 1) (f && cutInsOk (at_ ++ [((ins.length : Nat) : Int)]) (t.2.2.2.1.getD i tIns.dflt)) ((ins.length : Nat) : Int) (at_ ++ [((ins.length : Nat) : Int)]) (ins ++ [(cutIns (at_ ++ [((ins.length : Nat) : Int)]) (t.2.2.2.1.getD i tIns.dflt))]) hs hl (by simp; omega) (by first | omega | (simp; omega)); rw [dropCons (α := EIns) (Ty.dflt tIns) (by omega : i < t.2.2.2.1.length), dropCons (α := Int) (Ty.dflt tI) (by omega : i < to.length), cutLoop]; (first | rw [if_pos h2] | rw [if_neg h2, if_pos h3] | rw [if_neg h2, if_neg h3, if_pos h4, if_pos h5]); (first | rw [if_pos h1] | rw [if_neg h1]); exact ht
    ·refine g_iteD (fun h3 => ?_) (fun h3 => ?_)
     ·refine g_need (rfl) ?_
      refine g_need (⟨rfl, rfl⟩) ?_
      refine g_need (by first | omega | (constructor <;> omega) | (rw [i64_iff]; omega) | rfl | (have q1 := hs.1; have q2 := hs.2.1.1; (try simp only [List.length_cons, List.length_nil]); first | omega | (rw [i64_iff]; omega) | (constructor <;> omega))) ?_
      refine g_need (by first | omega | (constructor <;> omega) | (rw [i64_iff]; omega) | rfl | (have q1 := hs.1; have q2 := hs.2.1.1; (try simp only [List.length_cons, List.length_nil]); first | omega | (rw [i64_iff]; omega) | (constructor <;> omega))) ?_
      refine g_stop (RunN.keep [0, 1, 2, 3, 8, 5] (false :: true :: true :: false :: true :: false :: true :: true :: F16 (F4 (true :: true :: true :: F32 (F32 (F32 (F16 (F8 (F4 (false :: []))))))))) n0 (by decide) rfl rfl ?_)
      have ht := cut_l0 t to (i + 1) f ((ins.length : Nat) : Int) (at_ ++ [(-1)]) ins hs hl (by simp; omega) (by first | omega | (simp; omega)); rw [dropCons (α := EIns) (Ty.dflt tIns) (by omega : i < t.2.2.2.1.length), dropCons (α := Int) (Ty.dflt tI) (by omega : i < to.length), cutLoop]; (first | rw [if_pos h2] | rw [if_neg h2, if_pos h3] | rw [if_neg h2, if_neg h3, if_pos h4, if_pos h5]); (first | rw [if_pos h1] | rw [if_neg h1]); exact ht
     ·refine g_iteD (fun h4 => ?_) (fun h4 => ?_)
      ·refine g_iteD (fun h5 => ?_) (fun h5 => ?_)
       ·refine g_need (by omega) ?_
        refine g_need (by omega) ?_
        refine g_need (rfl) ?_
        refine g_need (⟨rfl, rfl⟩) ?_
        refine g_need (by first | omega | (constructor <;> omega) | (rw [i64_iff]; omega) | rfl | (have q1 := hs.1; have q2 := hs.2.1.1; (try simp only [List.length_cons, List.length_nil]); first | omega | (rw [i64_iff]; omega) | (constructor <;> omega))) ?_
        refine g_need (by first | omega | (constructor <;> omega) | (rw [i64_iff]; omega) | rfl | (have q1 := hs.1; have q2 := hs.2.1.1; (try simp only [List.length_cons, List.length_nil]); first | omega | (rw [i64_iff]; omega) | (constructor <;> omega))) ?_
        refine g_stop (RunN.keep [0, 1, 2, 3, 8, 5] (false :: true :: true :: false :: true :: false :: true :: true :: F16 (F4 (true :: true :: true :: F32 (F32 (F32 (F16 (F8 (F4 (false :: []))))))))) n0 (by decide) rfl rfl ?_)
        have ht := cut_l0 t to (i + 1) f ((ins.length : Nat) : Int) (at_ ++ [(at_.getD (Int.toNat (to.getD i tI.dflt)) tI.dflt)]) ins hs hl (by simp; omega) (by first | omega | (simp; omega)); rw [dropCons (α := EIns) (Ty.dflt tIns) (by omega : i < t.2.2.2.1.length), dropCons (α := Int) (Ty.dflt tI) (by omega : i < to.length), cutLoop]; (first | rw [if_pos h2] | rw [if_neg h2, if_pos h3] | rw [if_neg h2, if_neg h3, if_pos h4, if_pos h5]); (first | rw [if_pos h1] | rw [if_neg h1]); exact ht
       ·rw [dropCons (α := EIns) (Ty.dflt tIns) (by omega : i < t.2.2.2.1.length), dropCons (α := Int) (Ty.dflt tI) (by omega : i < to.length), cutLoop]; first | rw [if_neg h2, if_neg h3, if_neg h4] | rw [if_neg h2, if_neg h3, if_pos h4, if_neg h5]
        refine g_rq ?_
        exact g_rl (⟨⟨⟨rfl, rfl⟩, ⟨rfl, rfl⟩, ⟨rfl, rfl⟩, rfl, rfl, ⟨rfl, rfl⟩, ⟨rfl, rfl⟩, rfl, rfl, ⟨rfl, rfl⟩, ⟨rfl, rfl⟩, rfl, rfl, trivial⟩, ⟨rfl, rfl⟩, trivial⟩) rfl
      ·rw [dropCons (α := EIns) (Ty.dflt tIns) (by omega : i < t.2.2.2.1.length), dropCons (α := Int) (Ty.dflt tI) (by omega : i < to.length), cutLoop]; first | rw [if_neg h2, if_neg h3, if_neg h4] | rw [if_neg h2, if_neg h3, if_pos h4, if_neg h5]
       refine g_rq ?_
       exact g_rl (⟨⟨⟨rfl, rfl⟩, ⟨rfl, rfl⟩, ⟨rfl, rfl⟩, rfl, rfl, ⟨rfl, rfl⟩, ⟨rfl, rfl⟩, rfl, rfl, ⟨rfl, rfl⟩, ⟨rfl, rfl⟩, rfl, rfl, trivial⟩, ⟨rfl, rfl⟩, trivial⟩) rfl
   ·refine g_need (by omega) ?_
    refine g_need (by omega) ?_
    refine g_iteD (fun h2 => ?_) (fun h2 => ?_)
    ·refine g_need (rfl) ?_
     refine g_need (⟨rfl, rfl⟩) ?_
     refine g_need (by first | omega | (constructor <;> omega) | (rw [i64_iff]; omega) | rfl | (have q1 := hs.1; have q2 := hs.2.1.1; (try simp only [List.length_cons, List.length_nil]); first | omega | (rw [i64_iff]; omega) | (constructor <;> omega))) ?_
     refine g_callH (AFunH.frameB [2, 8] (cins_fun (at_ ++ [((ins.length : Nat) : Int)]) f (t.2.2.2.1.getD i tIns.dflt)) rfl rfl rfl rfl rfl rfl rfl) ?_
     refine g_need (rfl) ?_
     refine g_need (⟨rfl, rfl⟩) ?_
     refine g_need (by first | omega | (constructor <;> omega) | (rw [i64_iff]; omega) | rfl | (have q1 := hs.1; have q2 := hs.2.1.1; (try simp only [List.length_cons, List.length_nil]); first | omega | (rw [i64_iff]; omega) | (constructor <;> omega))) ?_
     refine g_need (by first | omega | (constructor <;> omega) | (rw [i64_iff]; omega) | rfl | (have q1 := hs.1; have q2 := hs.2.1.1; (try simp only [List.length_cons, List.length_nil]); first | omega | (rw [i64_iff]; omega) | (constructor <;> omega))) ?_
     refine g_stop (RunN.keep [0, 1, 2, 3, 8, 10] (false :: true :: true :: false :: true :: false :: true :: true :: F16 (F4 (true :: true :: true :: F32 (F32 (F32 (F16 (F8 (F4 (false :: []))))))))) n0 (by decide) rfl rfl ?_)
     have ht := cut_l0 t to (i + 1) (f && cutInsOk (at_ ++ [((ins.length : Nat) : Int)]) (t.2.2.2.1.getD i tIns.dflt)) lo (at_ ++ [((ins.length : Nat) : Int)]) (ins ++ [(cutIns (at_ ++ [((ins.length : Nat) : Int)]) (t.2.2.2.1.getD i tIns.dflt))]) hs hl (by simp; omega) (by first | omega | (simp; omega)); rw [dropCons (α := EIns) (Ty.dflt tIns) (by omega : i < t.2.2.2.1.length), dropCons (α := Int) (Ty.dflt tI) (by omega : i < to.length), cutLoop]; (first | rw [if_pos h2] | rw [if_neg h2, if_pos h3] | rw [if_neg h2, if_neg h3, if_pos h4, if_pos h5]); (first | rw [if_pos h1] | rw [if_neg h1]); exact ht
    ·refine g_iteD (fun h3 => ?_) (fun h3 => ?_)
     ·refine g_need (rfl) ?_
      refine g_need (⟨rfl, rfl⟩) ?_
      refine g_need (by first | omega | (constructor <;> omega) | (rw [i64_iff]; omega) | rfl | (have q1 := hs.1; have q2 := hs.2.1.1; (try simp only [List.length_cons, List.length_nil]); first | omega | (rw [i64_iff]; omega) | (constructor <;> omega))) ?_
      refine g_need (by first | omega | (constructor <;> omega) | (rw [i64_iff]; omega) | rfl | (have q1 := hs.1; have q2 := hs.2.1.1; (try simp only [List.length_cons, List.length_nil]); first | omega | (rw [i64_iff]; omega) | (constructor <;> omega))) ?_
      refine g_stop (RunN.keep [0, 1, 2, 3, 8, 5] (false :: true :: true :: false :: true :: false :: true :: true :: F16 (F4 (true :: true :: true :: F32 (F32 (F32 (F16 (F8 (F4 (false :: []))))))))) n0 (by decide) rfl rfl ?_)
      have ht := cut_l0 t to (i + 1) f lo (at_ ++ [(-1)]) ins hs hl (by simp; omega) (by first | omega | (simp; omega)); rw [dropCons (α := EIns) (Ty.dflt tIns) (by omega : i < t.2.2.2.1.length), dropCons (α := Int) (Ty.dflt tI) (by omega : i < to.length), cutLoop]; (first | rw [if_pos h2] | rw [if_neg h2, if_pos h3] | rw [if_neg h2, if_neg h3, if_pos h4, if_pos h5]); (first | rw [if_pos h1] | rw [if_neg h1]); exact ht
     ·refine g_iteD (fun h4 => ?_) (fun h4 => ?_)
      ·refine g_iteD (fun h5 => ?_) (fun h5 => ?_)
       ·refine g_need (by omega) ?_
        refine g_need (by omega) ?_
        refine g_need (rfl) ?_
        refine g_need (⟨rfl, rfl⟩) ?_
        refine g_need (by first | omega | (constructor <;> omega) | (rw [i64_iff]; omega) | rfl | (have q1 := hs.1; have q2 := hs.2.1.1; (try simp only [List.length_cons, List.length_nil]); first | omega | (rw [i64_iff]; omega) | (constructor <;> omega))) ?_
        refine g_need (by first | omega | (constructor <;> omega) | (rw [i64_iff]; omega) | rfl | (have q1 := hs.1; have q2 := hs.2.1.1; (try simp only [List.length_cons, List.length_nil]); first | omega | (rw [i64_iff]; omega) | (constructor <;> omega))) ?_
        refine g_stop (RunN.keep [0, 1, 2, 3, 8, 5] (false :: true :: true :: false :: true :: false :: true :: true :: F16 (F4 (true :: true :: true :: F32 (F32 (F32 (F16 (F8 (F4 (false :: []))))))))) n0 (by decide) rfl rfl ?_)
        have ht := cut_l0 t to (i + 1) f lo (at_ ++ [(at_.getD (Int.toNat (to.getD i tI.dflt)) tI.dflt)]) ins hs hl (by simp; omega) (by first | omega | (simp; omega)); rw [dropCons (α := EIns) (Ty.dflt tIns) (by omega : i < t.2.2.2.1.length), dropCons (α := Int) (Ty.dflt tI) (by omega : i < to.length), cutLoop]; (first | rw [if_pos h2] | rw [if_neg h2, if_pos h3] | rw [if_neg h2, if_neg h3, if_pos h4, if_pos h5]); (first | rw [if_pos h1] | rw [if_neg h1]); exact ht
       ·rw [dropCons (α := EIns) (Ty.dflt tIns) (by omega : i < t.2.2.2.1.length), dropCons (α := Int) (Ty.dflt tI) (by omega : i < to.length), cutLoop]; first | rw [if_neg h2, if_neg h3, if_neg h4] | rw [if_neg h2, if_neg h3, if_pos h4, if_neg h5]
        refine g_rq ?_
        exact g_rl (⟨⟨⟨rfl, rfl⟩, ⟨rfl, rfl⟩, ⟨rfl, rfl⟩, rfl, rfl, ⟨rfl, rfl⟩, ⟨rfl, rfl⟩, rfl, rfl, ⟨rfl, rfl⟩, ⟨rfl, rfl⟩, rfl, rfl, trivial⟩, ⟨rfl, rfl⟩, trivial⟩) rfl
      ·rw [dropCons (α := EIns) (Ty.dflt tIns) (by omega : i < t.2.2.2.1.length), dropCons (α := Int) (Ty.dflt tI) (by omega : i < to.length), cutLoop]; first | rw [if_neg h2, if_neg h3, if_neg h4] | rw [if_neg h2, if_neg h3, if_pos h4, if_neg h5]
       refine g_rq ?_
       exact g_rl (⟨⟨⟨rfl, rfl⟩, ⟨rfl, rfl⟩, ⟨rfl, rfl⟩, rfl, rfl, ⟨rfl, rfl⟩, ⟨rfl, rfl⟩, rfl, rfl, ⟨rfl, rfl⟩, ⟨rfl, rfl⟩, rfl, rfl, trivial⟩, ⟨rfl, rfl⟩, trivial⟩) rfl
  ·refine g_iteD (fun h1 => ?_) (fun h1 => ?_)
   ·refine g_iteD (fun h2 => ?_) (fun h2 => ?_)
    ·refine g_stop (RunN.keep [0, 1, 2, 3, 4, 5] (F2 (true :: false :: true :: false :: true :: true :: F32 (F32 (F32 (F32 (F16 (F4 ([])))))))) n0 (by decide) rfl rfl ?_)
     have ht := cut_r24 t to f 0 at_ ins hs; have e : loopAt t lo ins.length = 0 := (by simp only [loopAt, h0, h1, h2, if_true, if_false]); rw [List.drop_eq_nil_of_le (by omega : t.2.2.2.1.length ≤ i)]; simp only [cutLoop, cutThen, e]; exact ht
    ·refine g_stop (RunN.keep [0, 1, 2, 3, 4, 5] (F2 (true :: false :: true :: false :: true :: true :: F32 (F32 (F32 (F32 (F16 (F4 ([])))))))) n0 (by decide) rfl rfl ?_)
     have ht := cut_r24 t to f ((ins.length : Nat) : Int) at_ ins hs; have e : loopAt t lo ins.length = ((ins.length : Nat) : Int) := (by simp only [loopAt, h0, h1, h2, if_true, if_false]); rw [List.drop_eq_nil_of_le (by omega : t.2.2.2.1.length ≤ i)]; simp only [cutLoop, cutThen, e]; exact ht
   ·refine g_iteD (fun h2 => ?_) (fun h2 => ?_)
    ·refine g_stop (RunN.keep [0, 1, 2, 3, 4, 5] (F2 (true :: false :: true :: false :: true :: true :: F32 (F32 (F32 (F32 (F16 (F4 ([])))))))) n0 (by decide) rfl rfl ?_)
     have ht := cut_r24 t to f 0 at_ ins hs; have e : loopAt t lo ins.length = 0 := (by simp only [loopAt, h0, h1, h2, if_true, if_false]); rw [List.drop_eq_nil_of_le (by omega : t.2.2.2.1.length ≤ i)]; simp only [cutLoop, cutThen, e]; exact ht
    ·refine g_stop (RunN.keep [0, 1, 2, 3, 4, 5] (F2 (true :: false :: true :: false :: true :: true :: F32 (F32 (F32 (F32 (F16 (F4 ([])))))))) n0 (by decide) rfl rfl ?_)
     have ht := cut_r24 t to f lo at_ ins hs; have e : loopAt t lo ins.length = lo := (by simp only [loopAt, h0, h1, h2, if_true, if_false]); rw [List.drop_eq_nil_of_le (by omega : t.2.2.2.1.length ≤ i)]; simp only [cutLoop, cutThen, e]; exact ht
  )
 termination_by t.2.2.2.1.length - i
 decreasing_by all_goals omega
theorem cut_fun (t : ETrace) (to : List Int) (hs : traceSm t) : AFun Tryd.prog 22 [.agg (tTrace.enc t), .c (.ro tI to)] (.tup [.agg (Ty.enc tTrace ((cutF t to).1)), .c (.int .i64 ((cutF t to).2))]) :=
 AFun.of oc23 cut_lv 3000 Tryd.func22 mixed rfl (by decide) (Nat.le_of_ble_eq_true rfl) _ (cut_T_ok t to) fun hF => by
  unfold cut_T
  refine g_iteND (fun h0 => ?_) (fun h0 => ?_)
  ·rw [cutF, if_neg (by omega)]
   refine g_rq ?_
   exact g_rl (⟨⟨⟨rfl, rfl⟩, ⟨rfl, rfl⟩, ⟨rfl, rfl⟩, rfl, rfl, ⟨rfl, rfl⟩, ⟨rfl, rfl⟩, rfl, rfl, ⟨rfl, rfl⟩, ⟨rfl, rfl⟩, rfl, rfl, trivial⟩, ⟨rfl, rfl⟩, trivial⟩) rfl
  ·refine g_stop (RunN.keep [0, 1, 2, 3, 1004, 1005] (false :: true :: true :: false :: true :: false :: true :: true :: F16 (F4 (true :: true :: true :: F32 (F32 (F32 (F16 (F8 (F4 (false :: []))))))))) n0 (by decide) rfl rfl ?_)
   refine RunN.less (env' := (.junk :: .c (.ro tI to) :: .c (.ptr 0 0 0 0) :: .junk :: .c (.ptr 1 0 0 0) :: .junk :: .c (.ptr 2 0 0 0) :: .c (.ptr 3 0 0 0) :: J16 (J4 (.c (.ro tIns t.2.2.2.1) :: .c (.int .i64 (t.2.2.2.1.length : Int)) :: .c (.int .i64 ((0 : Nat) : Int)) :: J32 (J32 (J32 (J16 (J8 (J4 (.junk :: [])))))))))) (H' := [.cells 29 (Ty.enc tTrace t), bCm8, .cells 97 [.osl 4 1 0, .bool true], .cells 29 [.int .i64 t.1, .int .i64 t.2.1, .int .i64 0, .osl 5 8 0, .nilsl, .int .i64 0, .int .i64 0, .nilsl, .nilsl, .int .i64 0, .int .i64 0, .nilsl, .nilsl], .ovec 3 tI ([]), .ovec 46 tIns ([])]) (leAVs.same rfl) (⟨leB.refl _, leB.refl _, ⟨rfl, rfl, rfl, trivial⟩, ⟨rfl, leC.refl _, leC.refl _, leC.refl _, rfl, leC.refl _, leC.refl _, leC.refl _, leC.refl _, leC.refl _, leC.refl _, leC.refl _, leC.refl _, leC.refl _, trivial⟩, rfl, rfl, trivial⟩) ?_
   have ht := cut_l0 t to 0 true 0 ([]) ([]) hs (by omega) rfl (by simp); rw [cutF, if_pos (by omega)]; exact ht

end Go.Proofs.YtefkifdhjabdiaaDoor
namespace Go.Proofs.YtefkifdhjabdiaaDoor
set_option linter.unusedVariables false
set_option linter.unusedSimpArgs false
theorem right_small {p : EProg} {t : ETrace} (h : CheckOk p t) {x : EExit} {a : Int} (hx : rightXF (chkOf p t) x a = true) : exitSm x := by
 obtain ⟨_, _, h1, h2⟩ := rightXF_iff.1 hx
 have q1 := setsF_len h1
 obtain ⟨q2, q3⟩ := makesF_len h2
 have := h.regs
 have hn : (chkOf p t).2.2.2.2.1.length ≤ 300 := h.n
 exact ⟨by omega, by omega, fun m hm => Nat.le_trans (q3 m hm) (by omega)⟩
theorem CheckOk.small {p : EProg} {t : ETrace} (h : CheckOk p t) : traceSm t := by
 refine ⟨Nat.le_trans h.n (by omega), ⟨Nat.le_trans h.m (by omega), fun x hx => right_small h (h.exits x hx)⟩, ?_, right_small h h.back.2⟩
 rcases Int.lt_or_eq_of_le h.loop0 with hl | hl
 ·exact right_small h (h.turn1 hl).2
 ·have := bareF_iff.1 (h.turn0 hl.symm)
  rw [this]
  exact ⟨by simp, by simp, by simp⟩
end Go.Proofs.YtefkifdhjabdiaaDoor
namespace Go.Proofs.YtefkifdhjabdiaaDoor
set_option maxHeartbeats 4000000
set_option linter.unusedVariables false
set_option linter.unusedSimpArgs false
set_option maxRecDepth 100000
def iota (n : Nat) : List Int := (List.range n).map fun i : Nat => (i : Int)
theorem iota_succ (n : Nat) : iota n ++ [(n : Int)] = iota (n + 1) := by simp [iota, List.range_succ]
theorem iota_len (n : Nat) : (iota n).length = n := by simp [iota]
theorem iota_at {n : Nat} {v : Int} (h0 : 0 ≤ v) (h : v < n) : (iota n).getD v.toNat tI.dflt = v := by
 have hv : v.toNat < n := by omega
 rw [List.getD_eq_getElem?_getD, iota, List.getElem?_map, List.getElem?_range hv]
 show ((v.toNat : Nat) : Int) = v
 omega
theorem cutOne_iota {n : Nat} {v : Int} (h0 : 0 ≤ v) (h : v < n) : cutOne (iota n) v = (v, true) := by
 unfold cutOne
 rw [if_neg (by omega), if_neg (by rw [iota_len]; omega), if_neg (by rw [iota_at h0 h]; omega), iota_at h0 h]
theorem valueF_lt {c : EChk} {v a : Int} (h : valueF c v a = true) : 0 ≤ v ∧ v < a ∧ v < (c.2.2.2.2.1.length : Int) := by
 unfold valueF at h
 by_cases h1 : 0 ≤ v
 ·rw [if_pos h1] at h
  by_cases h2 : v < a
  ·rw [if_pos h2] at h
   by_cases h3 : v < (c.2.2.2.2.1.length : Int)
   ·exact ⟨h1, h2, h3⟩
   ·rw [if_neg h3] at h; cases h
  ·rw [if_neg h2] at h; cases h
 ·rw [if_neg h1] at h; cases h
theorem cut_sets {c : EChk} {a : Int} : ∀ {l : List EVal} {last : Int}, setsF c a last l = true → l.all (cutSetOk (iota c.2.2.2.2.1.length)) = true ∧ l.map (cutSet (iota c.2.2.2.2.1.length)) = l
 | [], _, _ => ⟨rfl, rfl⟩
 | s :: r, last, h => by
  unfold setsF at h
  split at h
  ·cases h
  ·split at h
   ·cases h
   ·split at h
    ·cases h
    ·rename_i _ _ hv
     obtain ⟨h0, _, h2⟩ := valueF_lt (by simpa using hv)
     obtain ⟨q1, q2⟩ := cut_sets h
     have e := cutOne_iota h0 h2
     refine ⟨?_, ?_⟩
     ·rw [List.all_cons, q1, cutSetOk, e]; rfl
     ·rw [List.map_cons, q2, cutSet, e]
theorem cut_make {c : EChk} {m : EMake} {a : Int} (h : makeF c m a = true) : cutMakeOk (iota c.2.2.2.2.1.length) m = true ∧ cutMake (iota c.2.2.2.2.1.length) m = m := by
 obtain ⟨h1, _, _, _, _, _, _, h8⟩ := makeF_iff.1 h
 obtain ⟨h0, _, h2⟩ := valueF_lt h1
 have e := cutOne_iota h0 h2
 have hl : ∀ v ∈ m.2.2.2, cutOne (iota c.2.2.2.2.1.length) v = (v, true) := fun v hv => by
  obtain ⟨h0, _, h2⟩ := valueF_lt (List.all_eq_true.1 h8 v hv)
  exact cutOne_iota h0 h2
 refine ⟨?_, ?_⟩
 ·unfold cutMakeOk
  rw [e, Bool.true_and, List.all_eq_true]
  exact fun v hv => by rw [hl v hv]
 ·unfold cutMake
  rw [e]
  have : (m.2.2.2.map fun v => (cutOne (iota c.2.2.2.2.1.length) v).1) = m.2.2.2 := by
   conv => rhs; rw [← List.map_id m.2.2.2]
   exact List.map_congr_left fun v hv => by rw [hl v hv]; rfl
  rw [this]
theorem cut_makes {c : EChk} {a : Int} : ∀ {l : List EMake} {last : Int}, makesF c a last l = true → l.all (cutMakeOk (iota c.2.2.2.2.1.length)) = true ∧ l.map (cutMake (iota c.2.2.2.2.1.length)) = l
 | [], _, _ => ⟨rfl, rfl⟩
 | m :: r, last, h => by
  unfold makesF at h
  split at h
  ·cases h
  ·split at h
   ·cases h
   ·rename_i _ hv
    obtain ⟨e1, e2⟩ := cut_make (c := c) (m := m) (a := a) (by simpa using hv)
    obtain ⟨q1, q2⟩ := cut_makes h
    exact ⟨by rw [List.all_cons, q1, e1]; rfl, by rw [List.map_cons, q2, e2]⟩
theorem cut_exit {c : EChk} {x : EExit} {a : Int} (h : rightXF c x a = true) : cutExitOk (iota c.2.2.2.2.1.length) x = true ∧ cutExit (iota c.2.2.2.2.1.length) x = x := by
 obtain ⟨_, _, h1, h2⟩ := rightXF_iff.1 h
 obtain ⟨a1, a2⟩ := cut_sets h1
 obtain ⟨b1, b2⟩ := cut_makes h2
 exact ⟨by unfold cutExitOk; rw [a1, b1]; rfl, by unfold cutExit; rw [a2, b2]⟩
theorem take_mem3 {a b c : Int} {n : Int} : (0 < n → a ∈ [a, b, c].take n.toNat) ∧ (1 < n → b ∈ [a, b, c].take n.toNat) ∧ (2 < n → c ∈ [a, b, c].take n.toNat) := by
 refine ⟨fun h => ?_, fun h => ?_, fun h => ?_⟩
 ·rw [show n.toNat = (n.toNat - 1) + 1 by omega]; simp
 ·rw [show n.toNat = (n.toNat - 2) + 1 + 1 by omega]; simp
 ·rw [show n.toNat = (n.toNat - 3) + 1 + 1 + 1 by omega]; simp
theorem cut_ins {c : EChk} {x : EIns} {i : Nat} (ht : (ofF x.1).2 = true) (h : formedF c (ofF x.1).1 x (i : Int) = true) : cutInsOk (iota (i + 1)) x = true ∧ cutIns (iota (i + 1)) x = x := by
 unfold formedF at h
 rw [Bool.and_eq_true] at h
 have hv := h.1
 obtain ⟨m0, m1, m2⟩ := take_mem3 (a := x.2.1) (b := x.2.2.1) (c := x.2.2.2.1) (n := (ofF x.1).1.1)
 have key : ∀ v ∈ [x.2.1, x.2.2.1, x.2.2.2.1].take (ofF x.1).1.1.toNat, cutOne (iota (i + 1)) v = (v, true) := fun v hm => by
  obtain ⟨h0, h1, _⟩ := valueF_lt (List.all_eq_true.1 hv v hm)
  exact cutOne_iota h0 (by omega)
 have hst : ∀ (k v : Int), (k < (ofF x.1).1.1 → cutOne (iota (i + 1)) v = (v, true)) → stepOk (iota (i + 1)) (ofF x.1).1.1 k v = true ∧ stepV (iota (i + 1)) (ofF x.1).1.1 k v = v := fun k v hk => by
  unfold stepOk stepV
  by_cases h : k < (ofF x.1).1.1
  ·rw [if_pos h, if_pos h, hk h]; exact ⟨rfl, rfl⟩
  ·rw [if_neg h, if_neg h]; exact ⟨rfl, rfl⟩
 obtain ⟨a0, b0⟩ := hst 0 x.2.1 fun h => key _ (m0 h)
 obtain ⟨a1, b1⟩ := hst 1 x.2.2.1 fun h => key _ (m1 h)
 obtain ⟨a2, b2⟩ := hst 2 x.2.2.2.1 fun h => key _ (m2 h)
 have hc : cutAsks x.1 = (ofF x.1).1.1 := by unfold cutAsks; rw [if_pos ht]
 exact ⟨by unfold cutInsOk; rw [hc, a0, a1, a2]; rfl, by unfold cutIns; rw [hc, b0, b1, b2]⟩
theorem cut_loop {loop : Int} (l : List EIns) (hx : ∀ (i : Nat) (x : EIns), l[i]? = some x → cutInsOk (iota (i + 1)) x = true ∧ cutIns (iota (i + 1)) x = x) : ∀ (k i : Nat) (lo : Int), l.length - i = k → i ≤ l.length →
  ∃ lo', cutLoop loop i (l.drop i) ((iota l.length).drop i) (iota i) true lo (l.take i) = some (iota l.length, true, lo', l) ∧ ((i : Int) ≤ loop → loop < (l.length : Int) → lo' = loop) ∧ (loop < (i : Int) → lo' = lo)
 | 0, i, lo, hk, hi => by
  obtain rfl : i = l.length := by omega
  rw [List.drop_eq_nil_of_le (Nat.le_refl _), List.take_of_length_le (Nat.le_refl _)]
  exact ⟨lo, rfl, fun h1 h2 => by omega, fun _ => rfl⟩
 | k + 1, i, lo, hk, hi => by
  have hlt : i < l.length := by omega
  have hlt2 : i < (iota l.length).length := by rw [iota_len]; exact hlt
  have ex : l[i]? = some (l.getD i tIns.dflt) := by rw [List.getD_eq_getElem?_getD, List.getElem?_eq_getElem hlt]; rfl
  obtain ⟨q1, q2⟩ := hx i _ ex
  have e1 : (iota l.length).getD i tI.dflt = (i : Int) := by
   have := iota_at (n := l.length) (v := (i : Int)) (by omega) (by omega)
   rwa [Int.toNat_natCast] at this
  have et : l.take i ++ [l.getD i tIns.dflt] = l.take (i + 1) := by rw [List.take_add_one, ex]; rfl
  have el : ((l.take i).length : Int) = (i : Int) := by rw [List.length_take, Nat.min_eq_left hi]
  obtain ⟨lo', r1, r2, r3⟩ := cut_loop (loop := loop) l hx k (i + 1) (if (i : Int) = loop then (i : Int) else lo) (by omega) (by omega)
  refine ⟨lo', ?_, fun h1 h2 => ?_, fun h1 => ?_⟩
  ·rw [dropCons (α := EIns) (Ty.dflt tIns) hlt, dropCons (α := Int) (Ty.dflt tI) hlt2, cutLoop, if_pos e1, el, iota_succ, q1, q2, et]
   exact r1
  ·by_cases h : (i : Int) = loop
   ·have := r3 (by omega)
    rw [if_pos h] at this
    omega
   ·exact r2 (by omega) h2
  ·have := r3 (by omega)
   rw [if_neg (by omega)] at this
   exact this
theorem cut_all {p : EProg} {t : ETrace} (h : CheckOk p t) : cutF t (iota t.2.2.2.1.length) = (t, 0) := by
 have hx : ∀ (i : Nat) (x : EIns), t.2.2.2.1[i]? = some x → cutInsOk (iota (i + 1)) x = true ∧ cutIns (iota (i + 1)) x = x := fun i x hi => by
  obtain ⟨h1, h2⟩ := h.ins i x hi
  exact cut_ins h1 h2
 obtain ⟨lo', r1, r2, _⟩ := cut_loop (loop := t.2.2.1) t.2.2.2.1 hx _ 0 0 rfl (Nat.zero_le _)
 have hl : loopAt t lo' t.2.2.2.1.length = t.2.2.1 := by
  have g0 := h.loop0
  have g1 := h.loop1
  unfold loopAt
  by_cases h1 : t.2.2.1 ≤ 0
  ·rw [if_pos h1]; omega
  ·rw [if_neg h1]
   by_cases h2 : (t.2.2.2.1.length : Int) ≤ t.2.2.1
   ·rw [if_pos h2]; omega
   ·rw [if_neg h2]; exact r2 (by omega) (by omega)
 have hr1 : cutLoop t.2.2.1 0 t.2.2.2.1 (iota t.2.2.2.1.length) [] true 0 [] = some (iota t.2.2.2.1.length, true, lo', t.2.2.2.1) := r1
 have hex : t.2.2.2.2.1.all (cutExitOk (iota t.2.2.2.1.length)) = true ∧ t.2.2.2.2.1.map (cutExit (iota t.2.2.2.1.length)) = t.2.2.2.2.1 := by
  refine ⟨List.all_eq_true.2 fun x hx => (cut_exit (c := chkOf p t) (h.exits x hx)).1, ?_⟩
  conv => rhs; rw [← List.map_id t.2.2.2.2.1]
  exact List.map_congr_left fun x hx => (cut_exit (c := chkOf p t) (h.exits x hx)).2
 have htu : cutExitOk (iota t.2.2.2.1.length) t.2.2.2.2.2.1 = true ∧ cutExit (iota t.2.2.2.1.length) t.2.2.2.2.2.1 = t.2.2.2.2.2.1 := by
  rcases Int.lt_or_eq_of_le h.loop0 with hl | hl
  ·exact cut_exit (c := chkOf p t) (h.turn1 hl).2
  ·rw [bareF_iff.1 (h.turn0 hl.symm)]; exact ⟨rfl, rfl⟩
 have hba : cutExitOk (iota t.2.2.2.1.length) t.2.2.2.2.2.2 = true ∧ cutExit (iota t.2.2.2.1.length) t.2.2.2.2.2.2 = t.2.2.2.2.2.2 := cut_exit (c := chkOf p t) h.back.2
 unfold cutF
 rw [if_pos (iota_len _), hr1]
 show cutEnd t (iota t.2.2.2.1.length) true (loopAt t lo' t.2.2.2.1.length) t.2.2.2.1 = (t, 0)
 rw [hl]
 unfold cutEnd endF
 rw [List.drop_zero, hex.1, htu.1, hba.1, hex.2, htu.2, hba.2, List.nil_append]
 rfl
theorem cutLoop_len {loop : Int} : ∀ {xs : List EIns} {i : Nat} {ns at_ : List Int} {f : Bool} {lo : Int} {ins : List EIns} {r : List Int × Bool × Int × List EIns}, cutLoop loop i xs ns at_ f lo ins = some r → r.2.2.2.length ≤ ins.length + xs.length
 | [], i, ns, at_, f, lo, ins, r, h => by
  unfold cutLoop at h
  injection h with h
  rw [← h]
  exact Nat.le_add_right _ _
 | x :: xs, i, [], at_, f, lo, ins, r, h => by
  unfold cutLoop at h
  injection h with h
  rw [← h]
  exact Nat.le_add_right _ _
 | x :: xs, i, n :: ns, at_, f, lo, ins, r, h => by
  rw [cutLoop] at h
  rw [List.length_cons]
  split at h
  ·have := cutLoop_len h
   rw [List.length_append, List.length_singleton] at this
   omega
  ·split at h
   ·have := cutLoop_len h; omega
   ·split at h
    ·split at h
     ·have := cutLoop_len h; omega
     ·cases h
    ·cases h
theorem cut_any (t : ETrace) (to : List Int) : ((cutF t to).2 = 0 ∧ (cutF t to).1.2.2.2.1.length ≤ t.2.2.2.1.length) ∨ ((cutF t to).2 = 3 ∧ (cutF t to).1.2.2.2.1.length = 0) := by
 unfold cutF
 split
 ·cases h : cutLoop t.2.2.1 0 t.2.2.2.1 to [] true 0 [] with
  | none => exact .inr ⟨rfl, rfl⟩
  | some r =>
   have hl := cutLoop_len h
   unfold cutThen cutEnd endF
   simp only
   split
   ·exact .inl ⟨rfl, by simpa using hl⟩
   ·exact .inr ⟨rfl, rfl⟩
 ·exact .inr ⟨rfl, rfl⟩
theorem cutNone_all {p : EProg} {t : ETrace} {i : Nat} {l : List Int} (hc : CheckOk p t) (h0 : ¬ ((i : Int) < (t.2.2.2.1.length : Int))) (hi : i ≤ t.2.2.2.1.length) (ha : l = iota i) : cutF t l = (t, 0) := by
 obtain rfl : i = t.2.2.2.1.length := by omega
 rw [ha]
 exact cut_all hc
end Go.Proofs.YtefkifdhjabdiaaDoor
namespace Go.Proofs.YtefkifdhjabdiaaDoor
set_option linter.unusedVariables false
set_option linter.unusedSimpArgs false
open Go.RowKit
theorem Stp.fresh {σ : Sg} {G G' : Nat → AB} {w w' : World} {m g : Nat} (hr : RelG σ G w) (hm : ¬ σ.D m) (hb : Below w.heap.size w w') (hg : w.heap.size ≤ g) (hB : ∀ σ', Ext σ w σ' w' → Blk σ' w' g (G' m)) :
  Stp σ G w [m] G' ⟨fun k => if k = m then g else σ.ι k, fun k => σ.D k ∨ k = m, σ.R⟩ w' := by
 have hx : Ext σ w ⟨fun k => if k = m then g else σ.ι k, fun k => σ.D k ∨ k = m, σ.R⟩ w' :=
  ⟨fun k hk => ⟨.inl hk, by simp only; rw [if_neg (by rintro rfl; exact hm hk)]⟩, fun _ h => h, fun k _ hlt => hb.block k hlt, fun k c e' fr hk => ⟨c, fr, by rw [hb.block k (Array.getElem?_eq_some_iff.1 hk).1]; exact hk, rfl⟩⟩
 refine ⟨fun b => by simp, hx, (Chg.of_below hb).mono fun _ h => h.elim, ?_, ?_, ?_, fun k h => .inl h, ?_, fun k hk => Nat.lt_of_lt_of_le (hr.rlt k hk) hb.size⟩
 ·intro b hb' _
  obtain rfl : b = m := by simpa using hb'
  have := hB _ hx
  simpa using this
 ·intro b hb' _
  obtain rfl : b = m := by simpa using hb'
  right; simpa using hg
 ·intro b hb' b' hb'' _ _ _
  obtain rfl : b = m := by simpa using hb'
  obtain rfl : b' = b := by simpa using hb''
  rfl
 ·intro b hb' _ hR
  obtain rfl : b = m := by simpa using hb'
  have := hr.rlt _ hR
  simp at this
  omega
/-- A function that tells a row of its own. -/
theorem AFunH.ofOwn {f : Nat} {t u : Ty} {e : TypeId} {xs : List t.El} {ys : List u.El} (hp : (t.rd : Rd t.El).sz = t.sz) (hen : ∀ v w, (callFunc f #[v]).run Tryd.prog w = .ok (.enter f #[v]) w) (h : ∀ (ok : Nat → Prop) (w : World) (v : Value), (∀ k, ok k → k < w.heap.size) → SlK u.rd ok w ys v → Calls Tryd.prog f #[v] w fun e' w' => ∃ v1, e' = .returned v1 ∧ Below w.heap.size w w' ∧ ((xs = [] ∧ ∃ A, v1 = .slice A 0 0) ∨ xs ≠ [] ∧ Own t.rd e ok w' w.heap.size v1 xs)) :
  AFunH Tryd.prog f [.c (.ro u ys)] [] (.c (.osl 0 t.sz xs.length)) [.ovec e t xs] [0] where
 len := by simp
 lt := by simp
 off := fun b hb => by
  have : b ≠ 0 := by simpa using hb
  rw [gv_none (by simp; omega), gv_none (by simp)]
 act := fun σ w vs hr hD hv => by
  obtain ⟨x, r, rfl, hx, hr'⟩ := vals_one hv
  obtain rfl := vals_nil hr'
  have hm : ¬ σ.D 0 := hD 0 (by simp) (by simp)
  refine .inl ⟨hen x w, (h σ.R w x hr.rlt hx).mono fun e' w' ⟨v1, he, hb, hq⟩ => ⟨v1, he, ?_⟩⟩
  clear he
  rcases hq with ⟨hn, A, rfl⟩ | ⟨hn, ho⟩
  ·subst hn
   refine ⟨_, Stp.fresh (g := w.heap.size) hr hm hb (Nat.le_refl _) (fun σ' _ => ?_), ?_⟩
   ·show Blk σ' w' _ (gv [AB.ovec e t []] 0)
    trivial
   ·exact ⟨A, rfl⟩
  ·obtain ⟨cells, ⟨hl, h2⟩, hxs⟩ := ho.ex
   have hlen : xs.length ≠ 0 := fun h => hn (List.eq_nil_of_length_eq_zero h)
   rcases h2 with ⟨_, h0⟩ | ⟨g, cap, cur, rfl, hg, hh, hc, hmx, hsz, htk⟩
   ·exact absurd h0 hlen
   ·refine ⟨_, Stp.fresh (g := g) hr hm hb hg (fun σ' hσ => ?_), ?_⟩
    ·show Blk σ' w' g (gv [AB.ovec e t xs] 0)
     rw [gv_ovec rfl hn]
     refine ⟨cur, hh, ?_, fun i y hi => ?_⟩
     ·rw [hsz, hp]; exact Nat.mul_le_mul_right _ hc
     ·have hi' : i < xs.length := (List.getElem?_eq_some_iff.1 hi).1
      have hq := hxs i y hi
      rw [hp, ← htk] at hq
      have e1 : (cur.toList.take (xs.length * t.rd.sz)).drop (i * t.sz) = (cur.toList.drop (i * t.sz)).take (xs.length * t.rd.sz - i * t.sz) := by rw [List.drop_take]
      rw [e1, List.take_take, Nat.min_eq_left (by rw [hp, ← Nat.sub_mul]; exact Nat.le_mul_of_pos_left _ (by omega))] at hq
      exact t.rd.mono (fun k hk => hσ.R k hk.1) hq
    ·show if xs.length = 0 then _ else _
     rw [if_neg hlen]
     exact ⟨.inr rfl, t.sz_pos, cap, cur, e, (0, 0), by simp, hc, by simpa [maxLen] using hmx, by simpa using hh, by rw [hsz, hp]⟩
theorem infoX : (Tryd.prog.info? 27).map (fun i => (i.zero, i.size, i.bytes)) = some (some (Value.agg #[.int .i64 0, .int .i64 0, .slice none 0 0, .slice none 0 0]), 4, 64) := by kernel_rfl
set_option maxRecDepth 100000 in
set_option maxHeartbeats 4000000 in
theorem cloneX_any (xs : List EExit) (hl : xs.length ≤ 1000) (ok : Nat → Prop) (w : World) (v : Value) (hok : ∀ k, ok k → k < w.heap.size) (h : SlK tExit.rd ok w xs v) :
  Calls Tryd.prog 52 #[v] w fun e w' => ∃ v1, e = .returned v1 ∧ Below w.heap.size w w' ∧ ((xs = [] ∧ ∃ A, v1 = .slice A 0 0) ∨ xs ≠ [] ∧ Own tExit.rd 27 ok w' w.heap.size v1 xs) := by
 obtain ⟨A, c, hv, h1, h2, h3, hC⟩ := h
 injection hv with hv
 subst hv
 cases A with
 | none =>
  have hc : c = 0 := h3 rfl
  subst hc
  have hx : xs = [] := List.eq_nil_of_length_eq_zero (by omega)
  subst hx
  clear hC h1 h2 h3 hl
  have hq : ([] : List EExit).length = 0 := rfl
  rw [hq]
  have heq : ∀ w, (binOp .eql 23 (.slice none 0 0) (.slice none 0 0)).run Tryd.prog w = .ok (.bool true) w := fun w => run_eql_nil_nil w _ _ Tryd.underlying23
  go_enter Tryd.func52, Tryd.ntmps52
  go_wp2_with fail
  go_ret
  exact ⟨_, rfl, Below.refl _ _, (by first | exact ⟨none, rfl⟩ | exact .inl ⟨trivial, none, rfl⟩)⟩
 | some a =>
  have heq : ∀ w, (binOp .eql 23 (.slice (some a) xs.length c) (.slice none 0 0)).run Tryd.prog w = .ok (.bool false) w := fun w => run_eql_some_nil w _ _ _ _ _ Tryd.underlying23
  have hB : Below w.heap.size w (w.alloc (.cells #[] 27)) := (Below.refl _ _).alloc (Nat.le_refl _) _
  have main : ∃ v1 w2, (Builtin.append_ #[23, 23] 23 #[.slice (some ⟨w.heap.size, 0, none⟩) 0 0, .slice (some a) xs.length c]).run Tryd.prog (w.alloc (.cells #[] 27)) = .ok v1 w2 ∧ Below w.heap.size w w2 ∧ ((xs = [] ∧ ∃ A, v1 = .slice A 0 0) ∨ xs ≠ [] ∧ Own tExit.rd 27 ok w2 w.heap.size v1 xs) := by
   by_cases hx : xs = []
   ·subst hx
    obtain ⟨ie, hie, _⟩ := Option.map_eq_some_iff.1 infoX
    exact ⟨_, _, run_append_none Tryd.underlying23 hie _ _ _ 0 0 _ c (Nat.le_refl _), hB, .inl ⟨rfl, _, rfl⟩⟩
   ·obtain ⟨v1, w2, hr, ho, hg, hat⟩ := (Own.laid tExit.rd 27 ok w w.heap.size (Nat.le_refl _)).append (t := 23) Tryd.underlying23 infoX rfl (by decide) (by decide) (some a) xs.length c (fun h => by cases h) (hC.move (fun k hk _ => hB.block k (hok k hk))) (fun k hk => ⟨hk, by simp only [Value.ownBlock]; intro he; injection he with he; have := hok k hk; omega⟩) (by simp; omega) (by simp) 23
    exact ⟨v1, w2, hr, hB.grown hg hB.size (fun k hk => by simp [Value.ownBlock] at hk; omega), .inr ⟨hx, by rw [List.nil_append] at ho; exact ho⟩⟩
  obtain ⟨v1, w2, hr, hres⟩ := main
  have H := Lib.hid hres
  clear hres hB hC h3 h1 h2 hl hok
  generalize xs.length = m at *
  go_enter Tryd.func52, Tryd.ntmps52
  go_wp2_with (at_builtin; refine wpList_append_eq rfl _ _ _ rfl _ _ rfl rfl hr ?_)
  go_ret
  exact ⟨_, rfl, H.out.1, H.out.2⟩
theorem cloneX_fun (xs : List EExit) (hl : xs.length ≤ 1000) : AFunH Tryd.prog 52 [.c (.ro tExit xs)] [] (.c (.osl 0 4 xs.length)) [.ovec 27 tExit xs] [0] :=
 AFunH.ofOwn (t := tExit) (u := tExit) rfl (fun v w => enters_of Tryd.func52 (by decide) rfl _ _) (cloneX_any xs hl)
theorem infoI : (Tryd.prog.info? 46).map (fun i => (i.zero, i.size, i.bytes)) = some (some (Value.agg #[.int .i64 0, .int .i64 0, .int .i64 0, .int .i64 0, .int .i64 0, .int .i64 0, .int .i64 0, .int .i64 0]), 8, 64) := by kernel_rfl
set_option maxRecDepth 100000 in
set_option maxHeartbeats 4000000 in
theorem cloneI_any (xs : List EIns) (hl : xs.length ≤ 1000) (ok : Nat → Prop) (w : World) (v : Value) (hok : ∀ k, ok k → k < w.heap.size) (h : SlK tIns.rd ok w xs v) :
  Calls Tryd.prog 64 #[v] w fun e w' => ∃ v1, e = .returned v1 ∧ Below w.heap.size w w' ∧ ((xs = [] ∧ ∃ A, v1 = .slice A 0 0) ∨ xs ≠ [] ∧ Own tIns.rd 46 ok w' w.heap.size v1 xs) := by
 obtain ⟨A, c, hv, h1, h2, h3, hC⟩ := h
 injection hv with hv
 subst hv
 cases A with
 | none =>
  have hc : c = 0 := h3 rfl
  subst hc
  have hx : xs = [] := List.eq_nil_of_length_eq_zero (by omega)
  subst hx
  clear hC h1 h2 h3 hl
  have hq : ([] : List EIns).length = 0 := rfl
  rw [hq]
  have heq : ∀ w, (binOp .eql 22 (.slice none 0 0) (.slice none 0 0)).run Tryd.prog w = .ok (.bool true) w := fun w => run_eql_nil_nil w _ _ Tryd.underlying22
  go_enter Tryd.func64, Tryd.ntmps64
  go_wp2_with fail
  go_ret
  exact ⟨_, rfl, Below.refl _ _, (by first | exact ⟨none, rfl⟩ | exact .inl ⟨trivial, none, rfl⟩)⟩
 | some a =>
  have heq : ∀ w, (binOp .eql 22 (.slice (some a) xs.length c) (.slice none 0 0)).run Tryd.prog w = .ok (.bool false) w := fun w => run_eql_some_nil w _ _ _ _ _ Tryd.underlying22
  have hB : Below w.heap.size w (w.alloc (.cells #[] 46)) := (Below.refl _ _).alloc (Nat.le_refl _) _
  have main : ∃ v1 w2, (Builtin.append_ #[22, 22] 22 #[.slice (some ⟨w.heap.size, 0, none⟩) 0 0, .slice (some a) xs.length c]).run Tryd.prog (w.alloc (.cells #[] 46)) = .ok v1 w2 ∧ Below w.heap.size w w2 ∧ ((xs = [] ∧ ∃ A, v1 = .slice A 0 0) ∨ xs ≠ [] ∧ Own tIns.rd 46 ok w2 w.heap.size v1 xs) := by
   by_cases hx : xs = []
   ·subst hx
    obtain ⟨ie, hie, _⟩ := Option.map_eq_some_iff.1 infoI
    exact ⟨_, _, run_append_none Tryd.underlying22 hie _ _ _ 0 0 _ c (Nat.le_refl _), hB, .inl ⟨rfl, _, rfl⟩⟩
   ·obtain ⟨v1, w2, hr, ho, hg, hat⟩ := (Own.laid tIns.rd 46 ok w w.heap.size (Nat.le_refl _)).append (t := 22) Tryd.underlying22 infoI rfl (by decide) (by decide) (some a) xs.length c (fun h => by cases h) (hC.move (fun k hk _ => hB.block k (hok k hk))) (fun k hk => ⟨hk, by simp only [Value.ownBlock]; intro he; injection he with he; have := hok k hk; omega⟩) (by simp; omega) (by simp) 22
    exact ⟨v1, w2, hr, hB.grown hg hB.size (fun k hk => by simp [Value.ownBlock] at hk; omega), .inr ⟨hx, by rw [List.nil_append] at ho; exact ho⟩⟩
  obtain ⟨v1, w2, hr, hres⟩ := main
  have H := Lib.hid hres
  clear hres hB hC h3 h1 h2 hl hok
  generalize xs.length = m at *
  go_enter Tryd.func64, Tryd.ntmps64
  go_wp2_with (at_builtin; refine wpList_append_eq rfl _ _ _ rfl _ _ rfl rfl hr ?_)
  go_ret
  exact ⟨_, rfl, H.out.1, H.out.2⟩
theorem cloneI_fun (xs : List EIns) (hl : xs.length ≤ 1000) : AFunH Tryd.prog 64 [.c (.ro tIns xs)] [] (.c (.osl 0 8 xs.length)) [.ovec 46 tIns xs] [0] :=
 AFunH.ofOwn (t := tIns) (u := tIns) rfl (fun v w => enters_of Tryd.func64 (by decide) rfl _ _) (cloneI_any xs hl)
end Go.Proofs.YtefkifdhjabdiaaDoor
namespace Go.Proofs.YtefkifdhjabdiaaDoor
set_option maxHeartbeats 4000000
set_option linter.unusedVariables false
set_option linter.unusedSimpArgs false
set_option maxRecDepth 100000
theorem sets_in {c : EChk} {a : Int} : ∀ {l : List ESet} {last : Int}, setsF c a last l = true → ∀ s ∈ l, 0 ≤ s.2 ∧ s.2 < (c.2.2.2.2.1.length : Int)
  | [], _, _, s, h => by cases h
  | x :: r, last, h, s, hs => by
    unfold setsF at h
    split at h
    · cases h
    · split at h
      · cases h
      · split at h
        · cases h
        · rename_i _ _ hv
          rcases List.mem_cons.1 hs with rfl | hs
          · obtain ⟨h0, _, h2⟩ := valueF_lt (by simpa using hv)
            exact ⟨h0, h2⟩
          · exact sets_in h s hs
theorem makes_in {c : EChk} {a : Int} : ∀ {l : List EMake} {last : Int}, makesF c a last l = true → ∀ m ∈ l, ∀ v ∈ m.1 :: m.2.2.2, 0 ≤ v ∧ v < (c.2.2.2.2.1.length : Int)
  | [], _, _, m, h, _, _ => by cases h
  | x :: r, last, h, m, hm, v, hv => by
    unfold makesF at h
    split at h
    · cases h
    · split at h
      · cases h
      · rename_i _ hk
        rcases List.mem_cons.1 hm with rfl | hm
        · obtain ⟨h1, _, _, _, _, _, _, h8⟩ := makeF_iff.1 (show makeF c _ a = true by simpa using hk)
          rcases List.mem_cons.1 hv with rfl | hv
          · obtain ⟨q0, _, q2⟩ := valueF_lt h1; exact ⟨q0, q2⟩
          · obtain ⟨q0, _, q2⟩ := valueF_lt (List.all_eq_true.1 h8 v hv); exact ⟨q0, q2⟩
        · exact makes_in h m hm v hv
theorem dvals_in {c : EChk} {x : EExit} {a : Int} (h : rightXF c x a = true) : ∀ v ∈ dvals x, 0 ≤ v ∧ v < (c.2.2.2.2.1.length : Int) := fun v hv => by
  obtain ⟨_, _, h1, h2⟩ := rightXF_iff.1 h
  unfold dvals at hv
  rcases List.mem_append.1 hv with hv | hv
  · obtain ⟨s, hs, rfl⟩ := List.mem_map.1 hv
    exact sets_in h1 s hs
  · obtain ⟨m, hm, hv⟩ := List.mem_flatMap.1 hv
    exact makes_in h2 m hm v hv
theorem turn_in {p : EProg} {t : ETrace} (hc : CheckOk p t) : ∀ v ∈ dvals t.2.2.2.2.2.1, 0 ≤ v ∧ v < (t.2.2.2.1.length : Int) := by
  rcases Int.lt_or_eq_of_le hc.loop0 with h | h
  · exact dvals_in (hc.turn1 h).2
  · have hb := bareF_iff.1 (hc.turn0 h.symm)
    rw [hb]
    intro v hv
    simp [dvals] at hv
def bareX (x : EExit) : EExit := (x.1, x.2.1, [], [])
def usedL : List EIns → List Bool → List Bool
  | [], u => u
  | x :: r, u => usedL r (if 0 ≤ x.2.2.2.2.2.1 then u.set (0 + x.2.2.2.2.2.1.toNat) true else u)
def usedF (t : ETrace) : List Bool := usedL t.2.2.2.1 (List.replicate t.2.2.2.2.1.length false)
def dexit (t : ETrace) (i : Nat) : EExit := if (usedF t).getD i (Ty.dflt .bool) = true then t.2.2.2.2.1.getD i tExit.dflt else bareX (t.2.2.2.2.1.getD i tExit.dflt)
def dexitsF (t : ETrace) : List EExit := (List.range t.2.2.2.2.1.length).map (dexit t)
def deadT (t : ETrace) : ETrace := (t.1, t.2.1, t.2.2.1, t.2.2.2.1, dexitsF t, t.2.2.2.2.2)
def markN (t : ETrace) : Nat → List Bool
  | 0 => List.replicate t.2.2.2.1.length false
  | i + 1 => markL (dvals (dexit t i)) (markN t i)
def asked0 (t : ETrace) : List Bool := markL (dvals t.2.2.2.2.2.2) (markL (dvals t.2.2.2.2.2.1) (markN t t.2.2.2.2.1.length))
def keepB (t : ETrace) (j : Nat) (a : List Bool) : Bool := a.getD (0 + j) (Ty.dflt .bool) || decide (0 ≤ (t.2.2.2.1.getD j tIns.dflt).2.2.2.2.2.1) || !tellF (t.2.2.2.1.getD j tIns.dflt).1 || (decide ((j : Int) = 0) && decide (0 < t.2.2.1))
def bstep (t : ETrace) (j : Nat) (s : List Int × List Bool) : List Int × List Bool :=
  if keepB t j s.2 = true then ((s.1.set (0 + j) (-1)).set (0 + j) (j : Int), markL (askF (t.2.2.2.1.getD j tIns.dflt)) s.2) else (s.1.set (0 + j) (-1), s.2)
def backSt (t : ETrace) : Nat → List Int × List Bool
  | 0 => (List.replicate t.2.2.2.1.length 0, asked0 t)
  | i + 1 => bstep t (t.2.2.2.1.length - 1 - i) (backSt t i)
noncomputable def deadDo (p : EProg) (t : ETrace) : ETrace × Int := if checkF p t = 0 then cutF (deadT t) (backSt t t.2.2.2.1.length).1 else (noT, checkF p t)
theorem asks_in {p : EProg} {t : ETrace} (hc : CheckOk p t) {i : Nat} (hi : i < t.2.2.2.1.length) : ∀ v ∈ askF (t.2.2.2.1.getD i tIns.dflt), 0 ≤ v ∧ v < (t.2.2.2.1.length : Int) := by
  have ex : t.2.2.2.1[i]? = some (t.2.2.2.1.getD i tIns.dflt) := by rw [List.getD_eq_getElem?_getD, List.getElem?_eq_getElem hi]; rfl
  obtain ⟨h1, h2⟩ := hc.ins i _ ex
  unfold formedF at h2
  rw [Bool.and_eq_true] at h2
  intro v hv
  unfold askF at hv
  rw [if_pos h1] at hv
  obtain ⟨q0, q1, _⟩ := valueF_in (List.all_eq_true.1 h2.1 v hv)
  omega
theorem bstep_yes {t : ETrace} {j : Nat} {to : List Int} {b : List Bool} (h : keepB t j b = true) : bstep t j (to, b) = ((to.set (0 + j) (-1)).set (0 + j) (j : Int), markL (askF (t.2.2.2.1.getD j tIns.dflt)) b) := if_pos h
theorem bstep_no {t : ETrace} {j : Nat} {to : List Int} {b : List Bool} (h : keepB t j b = false) : bstep t j (to, b) = (to.set (0 + j) (-1), b) := if_neg (by rw [h]; decide)
theorem markN_len (t : ETrace) : ∀ i, (markN t i).length = t.2.2.2.1.length
  | 0 => by simp [markN]
  | i + 1 => by unfold markN; rw [markL_len, markN_len t i]
theorem asked0_len (t : ETrace) : (asked0 t).length = t.2.2.2.1.length := by unfold asked0; rw [markL_len, markL_len, markN_len]
theorem bstep_len (t : ETrace) (j : Nat) (s : List Int × List Bool) : (bstep t j s).1.length = s.1.length ∧ (bstep t j s).2.length = s.2.length := by
  unfold bstep
  split
  · exact ⟨by simp, markL_len _ _⟩
  · exact ⟨by simp, rfl⟩
theorem backSt_len (t : ETrace) : ∀ i, (backSt t i).1.length = t.2.2.2.1.length ∧ (backSt t i).2.length = t.2.2.2.1.length
  | 0 => ⟨by simp [backSt], asked0_len t⟩
  | i + 1 => by
    have h := backSt_len t i
    have q := bstep_len t (t.2.2.2.1.length - 1 - i) (backSt t i)
    unfold backSt
    exact ⟨q.1.trans h.1, q.2.trans h.2⟩
theorem usedL_len : ∀ (l : List EIns) (u : List Bool), (usedL l u).length = u.length
  | [], _ => rfl
  | x :: r, u => by
    unfold usedL
    rw [usedL_len r]
    split
    · exact List.length_set
    · rfl
theorem usedF_len (t : ETrace) : (usedF t).length = t.2.2.2.2.1.length := by unfold usedF; rw [usedL_len]; simp
theorem exit_lt {p : EProg} {t : ETrace} (hc : CheckOk p t) {i : Nat} (hi : i < t.2.2.2.1.length) (h : 0 ≤ (t.2.2.2.1.getD i tIns.dflt).2.2.2.2.2.1) : (t.2.2.2.1.getD i tIns.dflt).2.2.2.2.2.1 < (t.2.2.2.2.1.length : Int) := by
  have ex : t.2.2.2.1[i]? = some (t.2.2.2.1.getD i tIns.dflt) := by rw [List.getD_eq_getElem?_getD, List.getElem?_eq_getElem hi]; rfl
  obtain ⟨_, h2⟩ := hc.ins i _ ex
  unfold formedF tailF tail2F exitOk at h2
  rw [Bool.and_eq_true, Bool.and_eq_true] at h2
  have h3 := h2.2.2
  repeat' split at h3
  all_goals first | (cases h3; done) | assumption | (have := of_decide_eq_true h3; omega) | omega
/-- The exits so far. -/
def ExI (t : ETrace) (i : Nat) (l : List EExit) : Prop := l.length = t.2.2.2.2.1.length ∧ ∀ j, j < t.2.2.2.2.1.length → l.getD j tExit.dflt = if j < i then dexit t j else t.2.2.2.2.1.getD j tExit.dflt
theorem getD_setX {α : Type} {l : List α} {i j : Nat} {v d : α} (hi : i < l.length) : (l.set i v).getD j d = if j = i then v else l.getD j d := by
  simp only [List.getD_eq_getElem?_getD, List.getElem?_set]
  by_cases h : i = j
  · subst h; simp [hi]
  · simp [h, Ne.symm h]
theorem ExI.at_ {t : ETrace} {i : Nat} {l : List EExit} (h : ExI t i l) (hi : i < t.2.2.2.2.1.length) : l.getD i tExit.dflt = t.2.2.2.2.1.getD i tExit.dflt := by rw [h.2 i hi, if_neg (by omega)]
theorem ExI.no {t : ETrace} {i : Nat} {l : List EExit} (h : ExI t i l) (hi : i < t.2.2.2.2.1.length) (hx : dexit t i = t.2.2.2.2.1.getD i tExit.dflt) : ExI t (i + 1) l := by
  refine ⟨h.1, fun j hj => ?_⟩
  rw [h.2 j hj]
  by_cases e : j = i
  · subst e; rw [if_neg (by omega), if_pos (by omega), hx]
  · by_cases hlt : j < i
    · rw [if_pos hlt, if_pos (by omega)]
    · rw [if_neg hlt, if_neg (by omega)]
theorem ExI.yes {t : ETrace} {i : Nat} {l : List EExit} (h : ExI t i l) (hi : i < t.2.2.2.2.1.length) {v : EExit} (hx : dexit t i = v) : ExI t (i + 1) (l.set i v) := by
  refine ⟨by rw [List.length_set]; exact h.1, fun j hj => ?_⟩
  rw [getD_setX (by rw [h.1]; exact hi)]
  by_cases e : j = i
  · subst e; rw [if_pos rfl, if_pos (by omega), hx]
  · rw [if_neg e, h.2 j hj]
    by_cases hlt : j < i
    · rw [if_pos hlt, if_pos (by omega)]
    · rw [if_neg hlt, if_neg (by omega)]
theorem ExI.start (t : ETrace) : ExI t 0 t.2.2.2.2.1 := ⟨rfl, fun j _ => by rw [if_neg (by omega)]⟩
theorem ExI.done {t : ETrace} {l : List EExit} (h : ExI t t.2.2.2.2.1.length l) : l = dexitsF t := by
  apply List.ext_getElem
  · rw [h.1]; simp [dexitsF]
  · intro j h1 h2
    have hj : j < t.2.2.2.2.1.length := by rw [h.1] at h1; exact h1
    have h3 := h.2 j hj
    rw [if_pos hj, List.getD_eq_getElem?_getD, List.getElem?_eq_getElem h1] at h3
    have h3 : l[j] = dexit t j := h3
    rw [h3]
    simp [dexitsF]
theorem dexit_no {t : ETrace} {i : Nat} (h : (usedF t).getD i (Ty.dflt .bool) = true) : dexit t i = t.2.2.2.2.1.getD i tExit.dflt := if_pos h
theorem dexit_yes {t : ETrace} {i : Nat} (h : (usedF t).getD i (Ty.dflt .bool) = false) : dexit t i = ((t.2.2.2.2.1.getD i tExit.dflt).1, (t.2.2.2.2.1.getD i tExit.dflt).2.1, [], []) := if_neg (by rw [h]; decide)
theorem exit_sm {p : EProg} {t : ETrace} (hc : CheckOk p t) {i : Nat} (hi : i < t.2.2.2.2.1.length) : exitSm (t.2.2.2.2.1.getD i tExit.dflt) ∧ ∀ v ∈ dvals (t.2.2.2.2.1.getD i tExit.dflt), 0 ≤ v ∧ v < (t.2.2.2.1.length : Int) := by
  have hm : t.2.2.2.2.1.getD i tExit.dflt ∈ t.2.2.2.2.1 := getD_mem (α := EExit) (Ty.dflt tExit) hi
  exact ⟨hc.small.2.1.2 _ hm, dvals_in (hc.exits _ hm)⟩
theorem bare_sm (a b : Int) : exitSm (a, b, [], []) ∧ ∀ (n : Int), ∀ v ∈ dvals (a, b, [], []), 0 ≤ v ∧ v < n := ⟨⟨Nat.zero_le _, Nat.zero_le _, fun m hm => by cases hm⟩, fun n v hv => by simp [dvals] at hv⟩
theorem dead_sm {p : EProg} {t : ETrace} (hc : CheckOk p t) : traceSm (deadT t) := by
  have h := hc.small
  refine ⟨h.1, ⟨by simp [deadT, dexitsF]; exact h.2.1.1, fun x hx => ?_⟩, h.2.2⟩
  simp only [deadT, dexitsF, List.mem_map, List.mem_range] at hx
  obtain ⟨j, hj, rfl⟩ := hx
  unfold dexit
  split
  · exact (exit_sm hc hj).1
  · exact (bare_sm _ _).1
noncomputable def oc124 : Orc where
  pure := fun f args => match f, args with
    | 17, [a0, a1] => match dA tProg a0, dA tTrace a1 with
      | some x0, some x1 => some (.c (.int .i64 (checkF x0 x1)))
      | _, _ => none
    | 18, [a0] => match dA tIns a0 with
      | some x0 => some (.c (.ro tI (askF x0)))
      | _ => none
    | 19, [a0] => match dA tI a0 with
      | some x0 => some (.c (.bool (tellF x0)))
      | _ => none
    | 22, [a0, a1] => match dA tTrace a0, dA (.slice tI) a1 with
      | some x0, some x1 => some (.tup [.agg (Ty.enc tTrace ((cutF x0 x1).1)), .c (.int .i64 ((cutF x0 x1).2))])
      | _, _ => none
    | 53, [a0] => match dA tExit a0 with
      | some x0 => some (.c (.ro tI (dvals x0)))
      | _ => none
    | _, _ => none
  heap := fun f args H => match f, args with
    | 51, [a0, .one (.c (.ptr b0 0 0 0))] => match cellsAs 108 H[b0]? with
      | some [.sl b1 1 0 n0_0] => (match dA (.slice tI) a0, vecAs 4 .bool H[b1]? with
        | some x0, some y1 => hres [b0, b1] H (.tup []) [.cells 108 [.sl 1 1 0 n0_0], .vec 4 .bool (markL x0 y1)]
        | _, _ => none)
      | _ => none
    | 52, [a0] => (match dA (.slice tExit) a0 with
        | some x0 => hres [] H (.c (.osl 0 4 x0.length)) [.ovec 27 tExit x0]
        | _ => none)
    | 54, [a0] => (match dA (.slice tIns) a0 with
      | some x0 => hres [] H (.c (.fnc (.fn0 89) (.ptr 0 0 0 0))) [.cells 22 [.ro tIns x0]]
      | _ => none)
    | _, _ => none
def deaddo_lv : LV := ⟨(F2 (false :: true :: true :: F2 (true :: F2 (true :: true :: F2 (true :: F8 (F4 (F2 (true :: true :: true :: F16 (F4 (false :: true :: true :: true :: F32 (F4 (false :: true :: F32 (F8 (F2 ([]))))))))))))))), []⟩
abbrev bEb3 : AB := .cells 29 [.int .i64 0, .int .i64 0, .int .i64 0, .nilsl, .nilsl, .int .i64 0, .int .i64 0, .nilsl, .nilsl, .int .i64 0, .int .i64 0, .nilsl, .nilsl]
noncomputable def deaddo_T (p : EProg) (t : ETrace) : Tree :=
  .call 17 [.agg (Ty.enc tProg p), .agg (Ty.enc tTrace t)] false (.c (.int .i64 (checkF p t))) <|
  .ite ((!(decide (checkF p t = 0))))
  (.ret (.tup [.agg [.int .i64 0, .int .i64 0, .int .i64 0, .nilsl, .nilsl, .int .i64 0, .int .i64 0, .nilsl, .nilsl, .int .i64 0, .int .i64 0, .nilsl, .nilsl], .c (.int .i64 (checkF p t))]) [.cells 39 (Ty.enc tProg p), .cells 29 (Ty.enc tTrace t), bEb3])
  (.need ((0 : Int) ≤ (t.2.2.2.2.1.length : Int) ∧ ((t.2.2.2.2.1.length : Int) : Int) ≤ (t.2.2.2.2.1.length : Int) ∧ ((t.2.2.2.2.1.length : Int) : Int) ≤ 140737488355328 ∧ (1 : Int) * (t.2.2.2.2.1.length : Int) ≤ 140737488355328) <|
   .stop (lp (bodyOf Tryd.f24) 0) (J2 (.junk :: .c (.ptr 1 0 0 0) :: .c (.ptr 2 0 0 0) :: J2 (.c (.sl 3 1 0 t.2.2.2.2.1.length) :: J16 (J4 (.junk :: .c (.ro tIns t.2.2.2.1) :: .c (.int .i64 (t.2.2.2.1.length : Int)) :: .c (.int .i64 0) :: J32 (J32 (J32 (J8 ([]))))))))) [.cells 39 (Ty.enc tProg p), .cells 29 (Ty.enc tTrace t), bEb3, .vec 4 .bool (List.replicate t.2.2.2.2.1.length false)])
theorem deaddo_T_ok (p : EProg) (t : ETrace) : aRun Tryd.prog oc124 Tryd.f24 deaddo_lv 3000 [.code (bodyOf Tryd.f24)] ([.agg (tProg.enc p), .agg (tTrace.enc t)] ++ List.replicate (Func.ntmps Tryd.f24 - 2) .junk) [] = deaddo_T p t := by kernel_rfl
abbrev bEb0 (t : ETrace) : AB := .cells 29 [.int .i64 t.1, .int .i64 t.2.1, .int .i64 t.2.2.1, .ro tIns t.2.2.2.1, .osl 6 4 t.2.2.2.2.1.length, .int .i64 t.2.2.2.2.2.1.1, .int .i64 t.2.2.2.2.2.1.2.1, .ro tVal t.2.2.2.2.2.1.2.2.1, .ro tMake t.2.2.2.2.2.1.2.2.2, .int .i64 t.2.2.2.2.2.2.1, .int .i64 t.2.2.2.2.2.2.2.1, .ro tVal t.2.2.2.2.2.2.2.2.1, .ro tMake t.2.2.2.2.2.2.2.2.2]
noncomputable def deaddo_l0_R (p : EProg) (t : ETrace) (i : Nat) (us : List Bool) : Tree :=
  .ite (decide (((i : Nat) : Int) < (t.2.2.2.1.length : Int)))
  (.need ((0 : Int) ≤ ((i : Nat) : Int) ∧ (((i : Nat) : Int) : Int) < (t.2.2.2.1.length : Int)) <|
   .need (i < t.2.2.2.1.length) <|
   .ite (decide ((0 : Int) ≤ (t.2.2.2.1.getD i tIns.dflt).2.2.2.2.2.1))
   (.need ((0 : Int) ≤ (t.2.2.2.1.getD i tIns.dflt).2.2.2.2.2.1 ∧ ((t.2.2.2.1.getD i tIns.dflt).2.2.2.2.2.1 : Int) < ((t.2.2.2.2.1.length : Nat) : Int)) <|
    .need ((0 + (Int.toNat (t.2.2.2.1.getD i tIns.dflt).2.2.2.2.2.1)) < us.length) <|
    .need (inR .i64 (((i : Nat) : Int) + 1)) <|
    .stop (lp (bodyOf Tryd.f24) 0) (J2 (.junk :: .c (.ptr 0 0 0 0) :: .c (.ptr 1 0 0 0) :: J2 (.c (.sl 2 1 0 t.2.2.2.2.1.length) :: J16 (J4 (.junk :: .c (.ro tIns t.2.2.2.1) :: .c (.int .i64 (t.2.2.2.1.length : Int)) :: .c (.int .i64 (((i : Nat) : Int) + 1)) :: J32 (J32 (J32 (J8 ([]))))))))) [.cells 29 (Ty.enc tTrace t), bEb3, .vec 4 .bool (us.set (0 + (Int.toNat (t.2.2.2.1.getD i tIns.dflt).2.2.2.2.2.1)) true), .cells 46 [.int .i64 (t.2.2.2.1.getD i tIns.dflt).1, .int .i64 (t.2.2.2.1.getD i tIns.dflt).2.1, .int .i64 (t.2.2.2.1.getD i tIns.dflt).2.2.1, .int .i64 (t.2.2.2.1.getD i tIns.dflt).2.2.2.1, .int .i64 (t.2.2.2.1.getD i tIns.dflt).2.2.2.2.1, .int .i64 (t.2.2.2.1.getD i tIns.dflt).2.2.2.2.2.1, .int .i64 (t.2.2.2.1.getD i tIns.dflt).2.2.2.2.2.2.1, .int .i64 (t.2.2.2.1.getD i tIns.dflt).2.2.2.2.2.2.2]])
   (.need (inR .i64 (((i : Nat) : Int) + 1)) <|
    .stop (lp (bodyOf Tryd.f24) 0) (J2 (.junk :: .c (.ptr 0 0 0 0) :: .c (.ptr 1 0 0 0) :: J2 (.c (.sl 2 1 0 t.2.2.2.2.1.length) :: J16 (J4 (.junk :: .c (.ro tIns t.2.2.2.1) :: .c (.int .i64 (t.2.2.2.1.length : Int)) :: .c (.int .i64 (((i : Nat) : Int) + 1)) :: J32 (J32 (J32 (J8 ([]))))))))) [.cells 29 (Ty.enc tTrace t), bEb3, .vec 4 .bool us, .cells 46 [.int .i64 (t.2.2.2.1.getD i tIns.dflt).1, .int .i64 (t.2.2.2.1.getD i tIns.dflt).2.1, .int .i64 (t.2.2.2.1.getD i tIns.dflt).2.2.1, .int .i64 (t.2.2.2.1.getD i tIns.dflt).2.2.2.1, .int .i64 (t.2.2.2.1.getD i tIns.dflt).2.2.2.2.1, .int .i64 (t.2.2.2.1.getD i tIns.dflt).2.2.2.2.2.1, .int .i64 (t.2.2.2.1.getD i tIns.dflt).2.2.2.2.2.2.1, .int .i64 (t.2.2.2.1.getD i tIns.dflt).2.2.2.2.2.2.2]]))
  (.need ((0 : Int) ≤ (t.2.2.2.1.length : Int) ∧ ((t.2.2.2.1.length : Int) : Int) ≤ (t.2.2.2.1.length : Int) ∧ ((t.2.2.2.1.length : Int) : Int) ≤ 140737488355328 ∧ (1 : Int) * (t.2.2.2.1.length : Int) ≤ 140737488355328) <|
   .callH 52 [.c (.ro tExit t.2.2.2.2.1)] [.cells 29 (Ty.enc tTrace t), bEb3, .vec 4 .bool us, .vec 4 .bool (List.replicate t.2.2.2.1.length false), .cells 108 [.sl 3 1 0 t.2.2.2.1.length], .cells 109 [.fnc (.fn0 51) (.ptr 4 0 0 0)]] (.c (.osl 6 4 t.2.2.2.2.1.length)) [.cells 29 (Ty.enc tTrace t), bEb3, .vec 4 .bool us, .vec 4 .bool (List.replicate t.2.2.2.1.length false), .cells 108 [.sl 3 1 0 t.2.2.2.1.length], .cells 109 [.fnc (.fn0 51) (.ptr 4 0 0 0)], .ovec 27 tExit t.2.2.2.2.1] [6] <|
   .stop (lp (bodyOf Tryd.f24) 1) (J2 (.junk :: .c (.ptr 0 0 0 0) :: .c (.ptr 1 0 0 0) :: J2 (.c (.sl 2 1 0 t.2.2.2.2.1.length) :: J2 (.c (.ptr 4 0 0 0) :: .c (.ptr 5 0 0 0) :: J16 (.junk :: .c (.ro tIns t.2.2.2.1) :: .c (.int .i64 (t.2.2.2.1.length : Int)) :: .c (.int .i64 ((i : Nat) : Int)) :: J16 (J4 (.junk :: .c (.osl 6 4 t.2.2.2.2.1.length) :: .c (.int .i64 ((t.2.2.2.2.1.length : Nat) : Int)) :: .c (.int .i64 0) :: J32 (J32 (J16 ([])))))))))) [(bEb0 t), bEb3, .vec 4 .bool us, .vec 4 .bool (List.replicate t.2.2.2.1.length false), .cells 108 [.sl 3 1 0 t.2.2.2.1.length], .cells 109 [.fnc (.fn0 51) (.ptr 4 0 0 0)], .ovec 27 tExit t.2.2.2.2.1])
theorem deaddo_l0_R_ok (p : EProg) (t : ETrace) (i : Nat) (us : List Bool) : aRound Tryd.prog oc124 Tryd.f24 deaddo_lv 3000 (lp (bodyOf Tryd.f24) 0) (J2 (.junk :: .c (.ptr 0 0 0 0) :: .c (.ptr 1 0 0 0) :: J2 (.c (.sl 2 1 0 t.2.2.2.2.1.length) :: J16 (J4 (.junk :: .c (.ro tIns t.2.2.2.1) :: .c (.int .i64 (t.2.2.2.1.length : Int)) :: .c (.int .i64 ((i : Nat) : Int)) :: J32 (J32 (J32 (J8 ([]))))))))) [.cells 29 (Ty.enc tTrace t), bEb3, .vec 4 .bool us] = deaddo_l0_R p t i us := by kernel_rfl
abbrev bEb2 (es : List EExit) (i : Nat) : AB := .cells 27 [.int .i64 (es.getD i tExit.dflt).1, .int .i64 (es.getD i tExit.dflt).2.1, .ro tVal (es.getD i tExit.dflt).2.2.1, .ro tMake (es.getD i tExit.dflt).2.2.2]
noncomputable def deaddo_l1_R (p : EProg) (t : ETrace) (i : Nat) (us : List Bool) (b : List Bool) (es : List EExit) : Tree :=
  .ite (decide (((i : Nat) : Int) < ((t.2.2.2.2.1.length : Nat) : Int)))
  (.need ((0 : Int) ≤ ((i : Nat) : Int) ∧ (((i : Nat) : Int) : Int) < ((t.2.2.2.2.1.length : Nat) : Int)) <|
   .need (i < es.length) <|
   .need ((0 : Int) ≤ ((i : Nat) : Int) ∧ (((i : Nat) : Int) : Int) < ((t.2.2.2.2.1.length : Nat) : Int)) <|
   .need ((0 + i) < us.length) <|
   .ite ((!(us.getD (0 + i) (.bool : Ty).dflt)))
   (.need ((0 : Int) ≤ ((i : Nat) : Int) ∧ (((i : Nat) : Int) : Int) < ((t.2.2.2.2.1.length : Nat) : Int)) <|
    .need (i < es.length) <|
    .call 53 [.agg [.int .i64 (es.getD i tExit.dflt).1, .int .i64 (es.getD i tExit.dflt).2.1, .nilsl, .nilsl]] false (.c (.ro tI (dvals ((es.getD i tExit.dflt).1, ((es.getD i tExit.dflt).2.1, ([], [])))))) <|
    .callH 51 [.c (.ro tI (dvals ((es.getD i tExit.dflt).1, ((es.getD i tExit.dflt).2.1, ([], []))))), .c (.ptr 4 0 0 0)] [(bEb0 t), bEb3, .vec 4 .bool us, .vec 4 .bool b, .cells 108 [.sl 3 1 0 t.2.2.2.1.length], .cells 109 [.fnc (.fn0 51) (.ptr 4 0 0 0)], .ovec 27 tExit (es.set i ((es.getD i tExit.dflt).1, ((es.getD i tExit.dflt).2.1, ([], [])))), .cells 27 [.int .i64 (es.getD i tExit.dflt).1, .int .i64 (es.getD i tExit.dflt).2.1, .nilsl, .nilsl]] (.tup []) [(bEb0 t), bEb3, .vec 4 .bool us, .vec 4 .bool (markL (dvals ((es.getD i tExit.dflt).1, ((es.getD i tExit.dflt).2.1, ([], [])))) b), .cells 108 [.sl 3 1 0 t.2.2.2.1.length], .cells 109 [.fnc (.fn0 51) (.ptr 4 0 0 0)], .ovec 27 tExit (es.set i ((es.getD i tExit.dflt).1, ((es.getD i tExit.dflt).2.1, ([], [])))), .cells 27 [.int .i64 (es.getD i tExit.dflt).1, .int .i64 (es.getD i tExit.dflt).2.1, .nilsl, .nilsl]] [4, 3] <|
    .need (inR .i64 (((i : Nat) : Int) + 1)) <|
    .stop (lp (bodyOf Tryd.f24) 1) (J2 (.junk :: .c (.ptr 0 0 0 0) :: .c (.ptr 1 0 0 0) :: J2 (.c (.sl 2 1 0 t.2.2.2.2.1.length) :: J2 (.c (.ptr 4 0 0 0) :: .c (.ptr 5 0 0 0) :: J32 (J8 (.junk :: .c (.osl 6 4 t.2.2.2.2.1.length) :: .c (.int .i64 ((t.2.2.2.2.1.length : Nat) : Int)) :: .c (.int .i64 (((i : Nat) : Int) + 1)) :: J32 (J32 (J16 ([]))))))))) [(bEb0 t), bEb3, .vec 4 .bool us, .vec 4 .bool (markL (dvals ((es.getD i tExit.dflt).1, ((es.getD i tExit.dflt).2.1, ([], [])))) b), .cells 108 [.sl 3 1 0 t.2.2.2.1.length], .cells 109 [.fnc (.fn0 51) (.ptr 4 0 0 0)], .ovec 27 tExit (es.set i ((es.getD i tExit.dflt).1, ((es.getD i tExit.dflt).2.1, ([], [])))), .cells 27 [.int .i64 (es.getD i tExit.dflt).1, .int .i64 (es.getD i tExit.dflt).2.1, .nilsl, .nilsl]])
   (.call 53 [.agg [.int .i64 (es.getD i tExit.dflt).1, .int .i64 (es.getD i tExit.dflt).2.1, .ro tVal (es.getD i tExit.dflt).2.2.1, .ro tMake (es.getD i tExit.dflt).2.2.2]] false (.c (.ro tI (dvals (es.getD i tExit.dflt)))) <|
    .callH 51 [.c (.ro tI (dvals (es.getD i tExit.dflt))), .c (.ptr 4 0 0 0)] [(bEb0 t), bEb3, .vec 4 .bool us, .vec 4 .bool b, .cells 108 [.sl 3 1 0 t.2.2.2.1.length], .cells 109 [.fnc (.fn0 51) (.ptr 4 0 0 0)], .ovec 27 tExit es, (bEb2 es i)] (.tup []) [(bEb0 t), bEb3, .vec 4 .bool us, .vec 4 .bool (markL (dvals (es.getD i tExit.dflt)) b), .cells 108 [.sl 3 1 0 t.2.2.2.1.length], .cells 109 [.fnc (.fn0 51) (.ptr 4 0 0 0)], .ovec 27 tExit es, (bEb2 es i)] [4, 3] <|
    .need (inR .i64 (((i : Nat) : Int) + 1)) <|
    .stop (lp (bodyOf Tryd.f24) 1) (J2 (.junk :: .c (.ptr 0 0 0 0) :: .c (.ptr 1 0 0 0) :: J2 (.c (.sl 2 1 0 t.2.2.2.2.1.length) :: J2 (.c (.ptr 4 0 0 0) :: .c (.ptr 5 0 0 0) :: J32 (J8 (.junk :: .c (.osl 6 4 t.2.2.2.2.1.length) :: .c (.int .i64 ((t.2.2.2.2.1.length : Nat) : Int)) :: .c (.int .i64 (((i : Nat) : Int) + 1)) :: J32 (J32 (J16 ([]))))))))) [(bEb0 t), bEb3, .vec 4 .bool us, .vec 4 .bool (markL (dvals (es.getD i tExit.dflt)) b), .cells 108 [.sl 3 1 0 t.2.2.2.1.length], .cells 109 [.fnc (.fn0 51) (.ptr 4 0 0 0)], .ovec 27 tExit es, (bEb2 es i)]))
  (.call 53 [.agg [.int .i64 t.2.2.2.2.2.1.1, .int .i64 t.2.2.2.2.2.1.2.1, .ro tVal t.2.2.2.2.2.1.2.2.1, .ro tMake t.2.2.2.2.2.1.2.2.2]] false (.c (.ro tI (dvals t.2.2.2.2.2.1))) <|
   .callH 51 [.c (.ro tI (dvals t.2.2.2.2.2.1)), .c (.ptr 4 0 0 0)] [(bEb0 t), bEb3, .vec 4 .bool us, .vec 4 .bool b, .cells 108 [.sl 3 1 0 t.2.2.2.1.length], .cells 109 [.fnc (.fn0 51) (.ptr 4 0 0 0)], .ovec 27 tExit es] (.tup []) [(bEb0 t), bEb3, .vec 4 .bool us, .vec 4 .bool (markL (dvals t.2.2.2.2.2.1) b), .cells 108 [.sl 3 1 0 t.2.2.2.1.length], .cells 109 [.fnc (.fn0 51) (.ptr 4 0 0 0)], .ovec 27 tExit es] [4, 3] <|
   .call 53 [.agg [.int .i64 t.2.2.2.2.2.2.1, .int .i64 t.2.2.2.2.2.2.2.1, .ro tVal t.2.2.2.2.2.2.2.2.1, .ro tMake t.2.2.2.2.2.2.2.2.2]] false (.c (.ro tI (dvals t.2.2.2.2.2.2))) <|
   .callH 51 [.c (.ro tI (dvals t.2.2.2.2.2.2)), .c (.ptr 4 0 0 0)] [(bEb0 t), bEb3, .vec 4 .bool us, .vec 4 .bool (markL (dvals t.2.2.2.2.2.1) b), .cells 108 [.sl 3 1 0 t.2.2.2.1.length], .cells 109 [.fnc (.fn0 51) (.ptr 4 0 0 0)], .ovec 27 tExit es] (.tup []) [(bEb0 t), bEb3, .vec 4 .bool us, .vec 4 .bool (markL (dvals t.2.2.2.2.2.2) (markL (dvals t.2.2.2.2.2.1) b)), .cells 108 [.sl 3 1 0 t.2.2.2.1.length], .cells 109 [.fnc (.fn0 51) (.ptr 4 0 0 0)], .ovec 27 tExit es] [4, 3] <|
   .need ((0 : Int) ≤ (t.2.2.2.1.length : Int) ∧ ((t.2.2.2.1.length : Int) : Int) ≤ (t.2.2.2.1.length : Int) ∧ ((t.2.2.2.1.length : Int) : Int) ≤ 140737488355328 ∧ (8 : Int) * (t.2.2.2.1.length : Int) ≤ 140737488355328) <|
   .callH 54 [.c (.ro tIns t.2.2.2.1)] [(bEb0 t), bEb3, .vec 4 .bool us, .vec 4 .bool (markL (dvals t.2.2.2.2.2.2) (markL (dvals t.2.2.2.2.2.1) b)), .cells 108 [.sl 3 1 0 t.2.2.2.1.length], .cells 109 [.fnc (.fn0 51) (.ptr 4 0 0 0)], .ovec 27 tExit es, .vec 3 tI (List.replicate t.2.2.2.1.length 0), .cells 41 [.sl 7 1 0 t.2.2.2.1.length]] (.c (.fnc (.fn0 89) (.ptr 9 0 0 0))) [(bEb0 t), bEb3, .vec 4 .bool us, .vec 4 .bool (markL (dvals t.2.2.2.2.2.2) (markL (dvals t.2.2.2.2.2.1) b)), .cells 108 [.sl 3 1 0 t.2.2.2.1.length], .cells 109 [.fnc (.fn0 51) (.ptr 4 0 0 0)], .ovec 27 tExit es, .vec 3 tI (List.replicate t.2.2.2.1.length 0), .cells 41 [.sl 7 1 0 t.2.2.2.1.length], .cells 22 [.ro tIns t.2.2.2.1]] [9] <|
   .stop (rf (bodyOf Tryd.f24) 0) (J2 (.junk :: .c (.ptr 0 0 0 0) :: .c (.ptr 1 0 0 0) :: J2 (.c (.sl 2 1 0 t.2.2.2.2.1.length) :: J2 (.c (.ptr 4 0 0 0) :: .c (.ptr 5 0 0 0) :: J2 (.c (.ptr 8 0 0 0) :: J32 (J4 (J2 (.c (.osl 6 4 t.2.2.2.2.1.length) :: .c (.int .i64 ((t.2.2.2.2.1.length : Nat) : Int)) :: .c (.int .i64 ((i : Nat) : Int)) :: J32 (J4 (.junk :: .c (.fnc (.fn0 89) (.ptr 9 0 0 0)) :: J32 (J8 (J2 ([]))))))))))))) [(bEb0 t), bEb3, .vec 4 .bool us, .vec 4 .bool (markL (dvals t.2.2.2.2.2.2) (markL (dvals t.2.2.2.2.2.1) b)), .cells 108 [.sl 3 1 0 t.2.2.2.1.length], .cells 109 [.fnc (.fn0 51) (.ptr 4 0 0 0)], .ovec 27 tExit es, .vec 3 tI (List.replicate t.2.2.2.1.length 0), .cells 41 [.sl 7 1 0 t.2.2.2.1.length], .cells 22 [.ro tIns t.2.2.2.1]])
theorem deaddo_l1_R_ok (p : EProg) (t : ETrace) (i : Nat) (us : List Bool) (b : List Bool) (es : List EExit) : aRound Tryd.prog oc124 Tryd.f24 deaddo_lv 3000 (lp (bodyOf Tryd.f24) 1) (J2 (.junk :: .c (.ptr 0 0 0 0) :: .c (.ptr 1 0 0 0) :: J2 (.c (.sl 2 1 0 t.2.2.2.2.1.length) :: J2 (.c (.ptr 4 0 0 0) :: .c (.ptr 5 0 0 0) :: J32 (J8 (.junk :: .c (.osl 6 4 t.2.2.2.2.1.length) :: .c (.int .i64 ((t.2.2.2.2.1.length : Nat) : Int)) :: .c (.int .i64 ((i : Nat) : Int)) :: J32 (J32 (J16 ([]))))))))) [(bEb0 t), bEb3, .vec 4 .bool us, .vec 4 .bool b, .cells 108 [.sl 3 1 0 t.2.2.2.1.length], .cells 109 [.fnc (.fn0 51) (.ptr 4 0 0 0)], .ovec 27 tExit es] = deaddo_l1_R p t i us b es := by kernel_rfl
def deaddo_H (t : ETrace) (es : List EExit) (s : List Int × List Bool) : List AB := [.cells 29 [.int .i64 t.1, .int .i64 t.2.1, .int .i64 t.2.2.1, .ro tIns t.2.2.2.1, .osl 5 4 t.2.2.2.2.1.length, .int .i64 t.2.2.2.2.2.1.1, .int .i64 t.2.2.2.2.2.1.2.1, .ro tVal t.2.2.2.2.2.1.2.2.1, .ro tMake t.2.2.2.2.2.1.2.2.2, .int .i64 t.2.2.2.2.2.2.1, .int .i64 t.2.2.2.2.2.2.2.1, .ro tVal t.2.2.2.2.2.2.2.2.1, .ro tMake t.2.2.2.2.2.2.2.2.2], .cells 29 [.int .i64 0, .int .i64 0, .int .i64 0, .nilsl, .nilsl, .int .i64 0, .int .i64 0, .nilsl, .nilsl, .int .i64 0, .int .i64 0, .nilsl, .nilsl], .vec 4 .bool s.2, .cells 108 [.sl 2 1 0 t.2.2.2.1.length], .cells 109 [.fnc (.fn0 51) (.ptr 3 0 0 0)], .ovec 27 tExit es, .vec 3 tI s.1, .cells 41 [.sl 6 1 0 t.2.2.2.1.length], .cells 22 [.ro tIns t.2.2.2.1]]
def deaddo_env (t : ETrace) : List AV := (J2 (.junk :: .c (.ptr 0 0 0 0) :: .c (.ptr 1 0 0 0) :: J4 (.junk :: .c (.ptr 3 0 0 0) :: .c (.ptr 4 0 0 0) :: J2 (.c (.ptr 7 0 0 0) :: J32 (J32 (J8 (J4 (J2 (.c (.fnc (.fn0 89) (.ptr 8 0 0 0)) :: J32 (J8 (J2 ([]))))))))))))
abbrev bEb1 (t : ETrace) : AB := .cells 29 [.int .i64 t.1, .int .i64 t.2.1, .int .i64 t.2.2.1, .ro tIns t.2.2.2.1, .osl 5 4 t.2.2.2.2.1.length, .int .i64 t.2.2.2.2.2.1.1, .int .i64 t.2.2.2.2.2.1.2.1, .ro tVal t.2.2.2.2.2.1.2.2.1, .ro tMake t.2.2.2.2.2.1.2.2.2, .int .i64 t.2.2.2.2.2.2.1, .int .i64 t.2.2.2.2.2.2.2.1, .ro tVal t.2.2.2.2.2.2.2.2.1, .ro tMake t.2.2.2.2.2.2.2.2.2]
theorem deaddo_rA (p : EProg) (t : ETrace) (es : List EExit) (j : Nat) (to : List Int) (b : List Bool) : aRun Tryd.prog oc124 Tryd.f24 ⟨[], []⟩ 3000 ([.code (rfA (bodyOf Tryd.f24) 0)] ++ [endL]) (((deaddo_env t).set 94 (.c (.int .i64 ((j : Nat) : Int)))).set 95 (.agg (tIns.enc (t.2.2.2.1.getD j tIns.dflt)))) (deaddo_H t es (to, b)) = .stop [.inLoop .skip] (J2 (.junk :: .c (.ptr 0 0 0 0) :: .c (.ptr 1 0 0 0) :: J4 (.junk :: .c (.ptr 3 0 0 0) :: .c (.ptr 4 0 0 0) :: J2 (.c (.ptr 7 0 0 0) :: .c (.int .i64 ((j : Nat) : Int)) :: .c (.ptr 9 0 0 0) :: J32 (J32 (J8 (J4 (.c (.fnc (.fn0 89) (.ptr 8 0 0 0)) :: .c (.int .i64 ((j : Nat) : Int)) :: .agg (Ty.enc tIns (t.2.2.2.1.getD j tIns.dflt)) :: J32 (J8 ([])))))))))) [(bEb1 t), bEb3, .vec 4 .bool b, .cells 108 [.sl 2 1 0 t.2.2.2.1.length], .cells 109 [.fnc (.fn0 51) (.ptr 3 0 0 0)], .ovec 27 tExit es, .vec 3 tI to, .cells 41 [.sl 6 1 0 t.2.2.2.1.length], .cells 22 [.ro tIns t.2.2.2.1], .cells 46 (Ty.enc tIns (t.2.2.2.1.getD j tIns.dflt))] := by kernel_rfl
noncomputable def deaddo_rB_T (p : EProg) (t : ETrace) (es : List EExit) (j : Nat) (to : List Int) (b : List Bool) : Tree :=
  .need ((0 : Int) ≤ ((j : Nat) : Int) ∧ (((j : Nat) : Int) : Int) < ((t.2.2.2.1.length : Nat) : Int)) <|
  .need ((0 + j) < to.length) <|
  .need ((0 : Int) ≤ ((j : Nat) : Int) ∧ (((j : Nat) : Int) : Int) < ((t.2.2.2.1.length : Nat) : Int)) <|
  .need ((0 + j) < b.length) <|
  .ite ((b.getD (0 + j) (.bool : Ty).dflt))
  (.need ((0 : Int) ≤ ((j : Nat) : Int) ∧ (((j : Nat) : Int) : Int) < ((t.2.2.2.1.length : Nat) : Int)) <|
   .need ((0 + j) < (to.set (0 + j) (-1)).length) <|
   .call 18 [.agg (Ty.enc tIns (t.2.2.2.1.getD j tIns.dflt))] false (.c (.ro tI (askF (t.2.2.2.1.getD j tIns.dflt)))) <|
   .callH 51 [.c (.ro tI (askF (t.2.2.2.1.getD j tIns.dflt))), .c (.ptr 3 0 0 0)] [(bEb1 t), bEb3, .vec 4 .bool b, .cells 108 [.sl 2 1 0 t.2.2.2.1.length], .cells 109 [.fnc (.fn0 51) (.ptr 3 0 0 0)], .ovec 27 tExit es, .vec 3 tI ((to.set (0 + j) (-1)).set (0 + j) ((j : Nat) : Int)), .cells 41 [.sl 6 1 0 t.2.2.2.1.length], .cells 22 [.ro tIns t.2.2.2.1], .cells 46 (Ty.enc tIns (t.2.2.2.1.getD j tIns.dflt))] (.tup []) [(bEb1 t), bEb3, .vec 4 .bool (markL (askF (t.2.2.2.1.getD j tIns.dflt)) b), .cells 108 [.sl 2 1 0 t.2.2.2.1.length], .cells 109 [.fnc (.fn0 51) (.ptr 3 0 0 0)], .ovec 27 tExit es, .vec 3 tI ((to.set (0 + j) (-1)).set (0 + j) ((j : Nat) : Int)), .cells 41 [.sl 6 1 0 t.2.2.2.1.length], .cells 22 [.ro tIns t.2.2.2.1], .cells 46 (Ty.enc tIns (t.2.2.2.1.getD j tIns.dflt))] [3, 2] <|
   .stop [.inLoop .skip] (J2 (.junk :: .c (.ptr 0 0 0 0) :: .c (.ptr 1 0 0 0) :: J4 (.junk :: .c (.ptr 3 0 0 0) :: .c (.ptr 4 0 0 0) :: J2 (.c (.ptr 7 0 0 0) :: .c (.int .i64 ((j : Nat) : Int)) :: .c (.ptr 9 0 0 0) :: J32 (J32 (J8 (J4 (.c (.fnc (.fn0 89) (.ptr 8 0 0 0)) :: .c (.int .i64 ((j : Nat) : Int)) :: .agg (Ty.enc tIns (t.2.2.2.1.getD j tIns.dflt)) :: .c (.sl 6 1 0 t.2.2.2.1.length) :: .c (.int .i64 ((j : Nat) : Int)) :: .c (.ptr 6 1 (0 + j) 0) :: .c (.sl 2 1 0 t.2.2.2.1.length) :: .c (.int .i64 ((j : Nat) : Int)) :: .c (.ptr 2 1 (0 + j) 0) :: .c (.bool (b.getD (0 + j) (.bool : Ty).dflt)) :: .c (.lit true) :: .tup [] :: .tup [] :: .tup [] :: .c (.lit true) :: .c (.lit true) :: .tup [] :: .tup [] :: .tup [] :: .tup [] :: .c (.lit true) :: .c (.lit true) :: .tup [] :: .tup [] :: .tup [] :: .tup [] :: .tup [] :: .tup [] :: .tup [] :: .c (.lit true) :: .c (.sl 6 1 0 t.2.2.2.1.length) :: .c (.int .i64 ((j : Nat) : Int)) :: .c (.int .i64 ((j : Nat) : Int)) :: .c (.ptr 6 1 (0 + j) 0) :: .c (.fnc (.fn0 51) (.ptr 3 0 0 0)) :: .agg (Ty.enc tIns (t.2.2.2.1.getD j tIns.dflt)) :: .c (.ro tI (askF (t.2.2.2.1.getD j tIns.dflt))) :: .tup [] :: J4 (.junk :: []))))))))) [(bEb1 t), bEb3, .vec 4 .bool (markL (askF (t.2.2.2.1.getD j tIns.dflt)) b), .cells 108 [.sl 2 1 0 t.2.2.2.1.length], .cells 109 [.fnc (.fn0 51) (.ptr 3 0 0 0)], .ovec 27 tExit es, .vec 3 tI ((to.set (0 + j) (-1)).set (0 + j) ((j : Nat) : Int)), .cells 41 [.sl 6 1 0 t.2.2.2.1.length], .cells 22 [.ro tIns t.2.2.2.1], .cells 46 (Ty.enc tIns (t.2.2.2.1.getD j tIns.dflt))])
  (.ite (decide ((0 : Int) ≤ (t.2.2.2.1.getD j tIns.dflt).2.2.2.2.2.1))
   (.need ((0 : Int) ≤ ((j : Nat) : Int) ∧ (((j : Nat) : Int) : Int) < ((t.2.2.2.1.length : Nat) : Int)) <|
    .need ((0 + j) < (to.set (0 + j) (-1)).length) <|
    .call 18 [.agg (Ty.enc tIns (t.2.2.2.1.getD j tIns.dflt))] false (.c (.ro tI (askF (t.2.2.2.1.getD j tIns.dflt)))) <|
    .callH 51 [.c (.ro tI (askF (t.2.2.2.1.getD j tIns.dflt))), .c (.ptr 3 0 0 0)] [(bEb1 t), bEb3, .vec 4 .bool b, .cells 108 [.sl 2 1 0 t.2.2.2.1.length], .cells 109 [.fnc (.fn0 51) (.ptr 3 0 0 0)], .ovec 27 tExit es, .vec 3 tI ((to.set (0 + j) (-1)).set (0 + j) ((j : Nat) : Int)), .cells 41 [.sl 6 1 0 t.2.2.2.1.length], .cells 22 [.ro tIns t.2.2.2.1], .cells 46 (Ty.enc tIns (t.2.2.2.1.getD j tIns.dflt))] (.tup []) [(bEb1 t), bEb3, .vec 4 .bool (markL (askF (t.2.2.2.1.getD j tIns.dflt)) b), .cells 108 [.sl 2 1 0 t.2.2.2.1.length], .cells 109 [.fnc (.fn0 51) (.ptr 3 0 0 0)], .ovec 27 tExit es, .vec 3 tI ((to.set (0 + j) (-1)).set (0 + j) ((j : Nat) : Int)), .cells 41 [.sl 6 1 0 t.2.2.2.1.length], .cells 22 [.ro tIns t.2.2.2.1], .cells 46 (Ty.enc tIns (t.2.2.2.1.getD j tIns.dflt))] [3, 2] <|
    .stop [.inLoop .skip] (J2 (.junk :: .c (.ptr 0 0 0 0) :: .c (.ptr 1 0 0 0) :: J4 (.junk :: .c (.ptr 3 0 0 0) :: .c (.ptr 4 0 0 0) :: J2 (.c (.ptr 7 0 0 0) :: .c (.int .i64 ((j : Nat) : Int)) :: .c (.ptr 9 0 0 0) :: J32 (J32 (J8 (J4 (.c (.fnc (.fn0 89) (.ptr 8 0 0 0)) :: .c (.int .i64 ((j : Nat) : Int)) :: .agg (Ty.enc tIns (t.2.2.2.1.getD j tIns.dflt)) :: .c (.sl 6 1 0 t.2.2.2.1.length) :: .c (.int .i64 ((j : Nat) : Int)) :: .c (.ptr 6 1 (0 + j) 0) :: .c (.sl 2 1 0 t.2.2.2.1.length) :: .c (.int .i64 ((j : Nat) : Int)) :: .c (.ptr 2 1 (0 + j) 0) :: .c (.bool (b.getD (0 + j) (.bool : Ty).dflt)) :: .c (.lit false) :: .c (.ptr 9 0 0 5) :: .c (.int .i64 (t.2.2.2.1.getD j tIns.dflt).2.2.2.2.2.1) :: .c (.bool (decide ((0 : Int) ≤ (t.2.2.2.1.getD j tIns.dflt).2.2.2.2.2.1))) :: .c (.bool (decide ((0 : Int) ≤ (t.2.2.2.1.getD j tIns.dflt).2.2.2.2.2.1))) :: .c (.lit true) :: .tup [] :: .tup [] :: .tup [] :: .tup [] :: .c (.lit true) :: .c (.lit true) :: .tup [] :: .tup [] :: .tup [] :: .tup [] :: .tup [] :: .tup [] :: .tup [] :: .c (.lit true) :: .c (.sl 6 1 0 t.2.2.2.1.length) :: .c (.int .i64 ((j : Nat) : Int)) :: .c (.int .i64 ((j : Nat) : Int)) :: .c (.ptr 6 1 (0 + j) 0) :: .c (.fnc (.fn0 51) (.ptr 3 0 0 0)) :: .agg (Ty.enc tIns (t.2.2.2.1.getD j tIns.dflt)) :: .c (.ro tI (askF (t.2.2.2.1.getD j tIns.dflt))) :: .tup [] :: J4 (.junk :: []))))))))) [(bEb1 t), bEb3, .vec 4 .bool (markL (askF (t.2.2.2.1.getD j tIns.dflt)) b), .cells 108 [.sl 2 1 0 t.2.2.2.1.length], .cells 109 [.fnc (.fn0 51) (.ptr 3 0 0 0)], .ovec 27 tExit es, .vec 3 tI ((to.set (0 + j) (-1)).set (0 + j) ((j : Nat) : Int)), .cells 41 [.sl 6 1 0 t.2.2.2.1.length], .cells 22 [.ro tIns t.2.2.2.1], .cells 46 (Ty.enc tIns (t.2.2.2.1.getD j tIns.dflt))])
   (.call 19 [.c (.int .i64 (t.2.2.2.1.getD j tIns.dflt).1)] false (.c (.bool (tellF (t.2.2.2.1.getD j tIns.dflt).1))) <|
    .ite ((!(tellF (t.2.2.2.1.getD j tIns.dflt).1)))
    (.need ((0 : Int) ≤ ((j : Nat) : Int) ∧ (((j : Nat) : Int) : Int) < ((t.2.2.2.1.length : Nat) : Int)) <|
     .need ((0 + j) < (to.set (0 + j) (-1)).length) <|
     .call 18 [.agg (Ty.enc tIns (t.2.2.2.1.getD j tIns.dflt))] false (.c (.ro tI (askF (t.2.2.2.1.getD j tIns.dflt)))) <|
     .callH 51 [.c (.ro tI (askF (t.2.2.2.1.getD j tIns.dflt))), .c (.ptr 3 0 0 0)] [(bEb1 t), bEb3, .vec 4 .bool b, .cells 108 [.sl 2 1 0 t.2.2.2.1.length], .cells 109 [.fnc (.fn0 51) (.ptr 3 0 0 0)], .ovec 27 tExit es, .vec 3 tI ((to.set (0 + j) (-1)).set (0 + j) ((j : Nat) : Int)), .cells 41 [.sl 6 1 0 t.2.2.2.1.length], .cells 22 [.ro tIns t.2.2.2.1], .cells 46 (Ty.enc tIns (t.2.2.2.1.getD j tIns.dflt))] (.tup []) [(bEb1 t), bEb3, .vec 4 .bool (markL (askF (t.2.2.2.1.getD j tIns.dflt)) b), .cells 108 [.sl 2 1 0 t.2.2.2.1.length], .cells 109 [.fnc (.fn0 51) (.ptr 3 0 0 0)], .ovec 27 tExit es, .vec 3 tI ((to.set (0 + j) (-1)).set (0 + j) ((j : Nat) : Int)), .cells 41 [.sl 6 1 0 t.2.2.2.1.length], .cells 22 [.ro tIns t.2.2.2.1], .cells 46 (Ty.enc tIns (t.2.2.2.1.getD j tIns.dflt))] [3, 2] <|
     .stop [.inLoop .skip] (J2 (.junk :: .c (.ptr 0 0 0 0) :: .c (.ptr 1 0 0 0) :: J4 (.junk :: .c (.ptr 3 0 0 0) :: .c (.ptr 4 0 0 0) :: J2 (.c (.ptr 7 0 0 0) :: .c (.int .i64 ((j : Nat) : Int)) :: .c (.ptr 9 0 0 0) :: J32 (J32 (J8 (J4 (.c (.fnc (.fn0 89) (.ptr 8 0 0 0)) :: .c (.int .i64 ((j : Nat) : Int)) :: .agg (Ty.enc tIns (t.2.2.2.1.getD j tIns.dflt)) :: .c (.sl 6 1 0 t.2.2.2.1.length) :: .c (.int .i64 ((j : Nat) : Int)) :: .c (.ptr 6 1 (0 + j) 0) :: .c (.sl 2 1 0 t.2.2.2.1.length) :: .c (.int .i64 ((j : Nat) : Int)) :: .c (.ptr 2 1 (0 + j) 0) :: .c (.bool (b.getD (0 + j) (.bool : Ty).dflt)) :: .c (.lit false) :: .c (.ptr 9 0 0 5) :: .c (.int .i64 (t.2.2.2.1.getD j tIns.dflt).2.2.2.2.2.1) :: .c (.bool (decide ((0 : Int) ≤ (t.2.2.2.1.getD j tIns.dflt).2.2.2.2.2.1))) :: .c (.bool (decide ((0 : Int) ≤ (t.2.2.2.1.getD j tIns.dflt).2.2.2.2.2.1))) :: .c (.lit false) :: .c (.ptr 9 0 0 0) :: .c (.int .i64 (t.2.2.2.1.getD j tIns.dflt).1) :: .c (.bool (tellF (t.2.2.2.1.getD j tIns.dflt).1)) :: .c (.bool (!(tellF (t.2.2.2.1.getD j tIns.dflt).1))) :: .c (.bool (!(tellF (t.2.2.2.1.getD j tIns.dflt).1))) :: .c (.lit true) :: .tup [] :: .tup [] :: .tup [] :: .tup [] :: .tup [] :: .tup [] :: .tup [] :: .c (.lit true) :: .c (.sl 6 1 0 t.2.2.2.1.length) :: .c (.int .i64 ((j : Nat) : Int)) :: .c (.int .i64 ((j : Nat) : Int)) :: .c (.ptr 6 1 (0 + j) 0) :: .c (.fnc (.fn0 51) (.ptr 3 0 0 0)) :: .agg (Ty.enc tIns (t.2.2.2.1.getD j tIns.dflt)) :: .c (.ro tI (askF (t.2.2.2.1.getD j tIns.dflt))) :: .tup [] :: J4 (.junk :: []))))))))) [(bEb1 t), bEb3, .vec 4 .bool (markL (askF (t.2.2.2.1.getD j tIns.dflt)) b), .cells 108 [.sl 2 1 0 t.2.2.2.1.length], .cells 109 [.fnc (.fn0 51) (.ptr 3 0 0 0)], .ovec 27 tExit es, .vec 3 tI ((to.set (0 + j) (-1)).set (0 + j) ((j : Nat) : Int)), .cells 41 [.sl 6 1 0 t.2.2.2.1.length], .cells 22 [.ro tIns t.2.2.2.1], .cells 46 (Ty.enc tIns (t.2.2.2.1.getD j tIns.dflt))])
    (.ite (decide (((j : Nat) : Int) = 0))
     (.ite (decide ((0 : Int) < t.2.2.1))
      (.need ((0 : Int) ≤ ((j : Nat) : Int) ∧ (((j : Nat) : Int) : Int) < ((t.2.2.2.1.length : Nat) : Int)) <|
       .need ((0 + j) < (to.set (0 + j) (-1)).length) <|
       .call 18 [.agg (Ty.enc tIns (t.2.2.2.1.getD j tIns.dflt))] false (.c (.ro tI (askF (t.2.2.2.1.getD j tIns.dflt)))) <|
       .callH 51 [.c (.ro tI (askF (t.2.2.2.1.getD j tIns.dflt))), .c (.ptr 3 0 0 0)] [(bEb1 t), bEb3, .vec 4 .bool b, .cells 108 [.sl 2 1 0 t.2.2.2.1.length], .cells 109 [.fnc (.fn0 51) (.ptr 3 0 0 0)], .ovec 27 tExit es, .vec 3 tI ((to.set (0 + j) (-1)).set (0 + j) ((j : Nat) : Int)), .cells 41 [.sl 6 1 0 t.2.2.2.1.length], .cells 22 [.ro tIns t.2.2.2.1], .cells 46 (Ty.enc tIns (t.2.2.2.1.getD j tIns.dflt))] (.tup []) [(bEb1 t), bEb3, .vec 4 .bool (markL (askF (t.2.2.2.1.getD j tIns.dflt)) b), .cells 108 [.sl 2 1 0 t.2.2.2.1.length], .cells 109 [.fnc (.fn0 51) (.ptr 3 0 0 0)], .ovec 27 tExit es, .vec 3 tI ((to.set (0 + j) (-1)).set (0 + j) ((j : Nat) : Int)), .cells 41 [.sl 6 1 0 t.2.2.2.1.length], .cells 22 [.ro tIns t.2.2.2.1], .cells 46 (Ty.enc tIns (t.2.2.2.1.getD j tIns.dflt))] [3, 2] <|
       .stop [.inLoop .skip] (J2 (.junk :: .c (.ptr 0 0 0 0) :: .c (.ptr 1 0 0 0) :: J4 (.junk :: .c (.ptr 3 0 0 0) :: .c (.ptr 4 0 0 0) :: J2 (.c (.ptr 7 0 0 0) :: .c (.int .i64 ((j : Nat) : Int)) :: .c (.ptr 9 0 0 0) :: J32 (J32 (J8 (J4 (.c (.fnc (.fn0 89) (.ptr 8 0 0 0)) :: .c (.int .i64 ((j : Nat) : Int)) :: .agg (Ty.enc tIns (t.2.2.2.1.getD j tIns.dflt)) :: .c (.sl 6 1 0 t.2.2.2.1.length) :: .c (.int .i64 ((j : Nat) : Int)) :: .c (.ptr 6 1 (0 + j) 0) :: .c (.sl 2 1 0 t.2.2.2.1.length) :: .c (.int .i64 ((j : Nat) : Int)) :: .c (.ptr 2 1 (0 + j) 0) :: .c (.bool (b.getD (0 + j) (.bool : Ty).dflt)) :: .c (.lit false) :: .c (.ptr 9 0 0 5) :: .c (.int .i64 (t.2.2.2.1.getD j tIns.dflt).2.2.2.2.2.1) :: .c (.bool (decide ((0 : Int) ≤ (t.2.2.2.1.getD j tIns.dflt).2.2.2.2.2.1))) :: .c (.bool (decide ((0 : Int) ≤ (t.2.2.2.1.getD j tIns.dflt).2.2.2.2.2.1))) :: .c (.lit false) :: .c (.ptr 9 0 0 0) :: .c (.int .i64 (t.2.2.2.1.getD j tIns.dflt).1) :: .c (.bool (tellF (t.2.2.2.1.getD j tIns.dflt).1)) :: .c (.bool (!(tellF (t.2.2.2.1.getD j tIns.dflt).1))) :: .c (.bool (!(tellF (t.2.2.2.1.getD j tIns.dflt).1))) :: .c (.lit false) :: .c (.int .i64 ((j : Nat) : Int)) :: .c (.bool (decide (((j : Nat) : Int) = 0))) :: .c (.lit true) :: .c (.ptr 0 0 0 2) :: .c (.int .i64 t.2.2.1) :: .c (.bool (decide ((0 : Int) < t.2.2.1))) :: .c (.bool (decide ((0 : Int) < t.2.2.1))) :: .c (.bool (decide ((0 : Int) < t.2.2.1))) :: .c (.sl 6 1 0 t.2.2.2.1.length) :: .c (.int .i64 ((j : Nat) : Int)) :: .c (.int .i64 ((j : Nat) : Int)) :: .c (.ptr 6 1 (0 + j) 0) :: .c (.fnc (.fn0 51) (.ptr 3 0 0 0)) :: .agg (Ty.enc tIns (t.2.2.2.1.getD j tIns.dflt)) :: .c (.ro tI (askF (t.2.2.2.1.getD j tIns.dflt))) :: .tup [] :: J4 (.junk :: []))))))))) [(bEb1 t), bEb3, .vec 4 .bool (markL (askF (t.2.2.2.1.getD j tIns.dflt)) b), .cells 108 [.sl 2 1 0 t.2.2.2.1.length], .cells 109 [.fnc (.fn0 51) (.ptr 3 0 0 0)], .ovec 27 tExit es, .vec 3 tI ((to.set (0 + j) (-1)).set (0 + j) ((j : Nat) : Int)), .cells 41 [.sl 6 1 0 t.2.2.2.1.length], .cells 22 [.ro tIns t.2.2.2.1], .cells 46 (Ty.enc tIns (t.2.2.2.1.getD j tIns.dflt))])
      (.stop [.inLoop .skip] (J2 (.junk :: .c (.ptr 0 0 0 0) :: .c (.ptr 1 0 0 0) :: J4 (.junk :: .c (.ptr 3 0 0 0) :: .c (.ptr 4 0 0 0) :: J2 (.c (.ptr 7 0 0 0) :: .c (.int .i64 ((j : Nat) : Int)) :: .c (.ptr 9 0 0 0) :: J32 (J32 (J8 (J4 (.c (.fnc (.fn0 89) (.ptr 8 0 0 0)) :: .c (.int .i64 ((j : Nat) : Int)) :: .agg (Ty.enc tIns (t.2.2.2.1.getD j tIns.dflt)) :: .c (.sl 6 1 0 t.2.2.2.1.length) :: .c (.int .i64 ((j : Nat) : Int)) :: .c (.ptr 6 1 (0 + j) 0) :: .c (.sl 2 1 0 t.2.2.2.1.length) :: .c (.int .i64 ((j : Nat) : Int)) :: .c (.ptr 2 1 (0 + j) 0) :: .c (.bool (b.getD (0 + j) (.bool : Ty).dflt)) :: .c (.lit false) :: .c (.ptr 9 0 0 5) :: .c (.int .i64 (t.2.2.2.1.getD j tIns.dflt).2.2.2.2.2.1) :: .c (.bool (decide ((0 : Int) ≤ (t.2.2.2.1.getD j tIns.dflt).2.2.2.2.2.1))) :: .c (.bool (decide ((0 : Int) ≤ (t.2.2.2.1.getD j tIns.dflt).2.2.2.2.2.1))) :: .c (.lit false) :: .c (.ptr 9 0 0 0) :: .c (.int .i64 (t.2.2.2.1.getD j tIns.dflt).1) :: .c (.bool (tellF (t.2.2.2.1.getD j tIns.dflt).1)) :: .c (.bool (!(tellF (t.2.2.2.1.getD j tIns.dflt).1))) :: .c (.bool (!(tellF (t.2.2.2.1.getD j tIns.dflt).1))) :: .c (.lit false) :: .c (.int .i64 ((j : Nat) : Int)) :: .c (.bool (decide (((j : Nat) : Int) = 0))) :: .c (.lit true) :: .c (.ptr 0 0 0 2) :: .c (.int .i64 t.2.2.1) :: .c (.bool (decide ((0 : Int) < t.2.2.1))) :: .c (.bool (decide ((0 : Int) < t.2.2.1))) :: .c (.bool (decide ((0 : Int) < t.2.2.1))) :: J8 (J4 (.junk :: [])))))))))) [(bEb1 t), bEb3, .vec 4 .bool b, .cells 108 [.sl 2 1 0 t.2.2.2.1.length], .cells 109 [.fnc (.fn0 51) (.ptr 3 0 0 0)], .ovec 27 tExit es, .vec 3 tI (to.set (0 + j) (-1)), .cells 41 [.sl 6 1 0 t.2.2.2.1.length], .cells 22 [.ro tIns t.2.2.2.1], .cells 46 (Ty.enc tIns (t.2.2.2.1.getD j tIns.dflt))]))
     (.stop [.inLoop .skip] (J2 (.junk :: .c (.ptr 0 0 0 0) :: .c (.ptr 1 0 0 0) :: J4 (.junk :: .c (.ptr 3 0 0 0) :: .c (.ptr 4 0 0 0) :: J2 (.c (.ptr 7 0 0 0) :: .c (.int .i64 ((j : Nat) : Int)) :: .c (.ptr 9 0 0 0) :: J32 (J32 (J8 (J4 (.c (.fnc (.fn0 89) (.ptr 8 0 0 0)) :: .c (.int .i64 ((j : Nat) : Int)) :: .agg (Ty.enc tIns (t.2.2.2.1.getD j tIns.dflt)) :: .c (.sl 6 1 0 t.2.2.2.1.length) :: .c (.int .i64 ((j : Nat) : Int)) :: .c (.ptr 6 1 (0 + j) 0) :: .c (.sl 2 1 0 t.2.2.2.1.length) :: .c (.int .i64 ((j : Nat) : Int)) :: .c (.ptr 2 1 (0 + j) 0) :: .c (.bool (b.getD (0 + j) (.bool : Ty).dflt)) :: .c (.lit false) :: .c (.ptr 9 0 0 5) :: .c (.int .i64 (t.2.2.2.1.getD j tIns.dflt).2.2.2.2.2.1) :: .c (.bool (decide ((0 : Int) ≤ (t.2.2.2.1.getD j tIns.dflt).2.2.2.2.2.1))) :: .c (.bool (decide ((0 : Int) ≤ (t.2.2.2.1.getD j tIns.dflt).2.2.2.2.2.1))) :: .c (.lit false) :: .c (.ptr 9 0 0 0) :: .c (.int .i64 (t.2.2.2.1.getD j tIns.dflt).1) :: .c (.bool (tellF (t.2.2.2.1.getD j tIns.dflt).1)) :: .c (.bool (!(tellF (t.2.2.2.1.getD j tIns.dflt).1))) :: .c (.bool (!(tellF (t.2.2.2.1.getD j tIns.dflt).1))) :: .c (.lit false) :: .c (.int .i64 ((j : Nat) : Int)) :: .c (.bool (decide (((j : Nat) : Int) = 0))) :: .c (.lit false) :: .tup [] :: .tup [] :: .tup [] :: .c (.lit false) :: .c (.lit false) :: J8 (J4 (.junk :: [])))))))))) [(bEb1 t), bEb3, .vec 4 .bool b, .cells 108 [.sl 2 1 0 t.2.2.2.1.length], .cells 109 [.fnc (.fn0 51) (.ptr 3 0 0 0)], .ovec 27 tExit es, .vec 3 tI (to.set (0 + j) (-1)), .cells 41 [.sl 6 1 0 t.2.2.2.1.length], .cells 22 [.ro tIns t.2.2.2.1], .cells 46 (Ty.enc tIns (t.2.2.2.1.getD j tIns.dflt))]))))
theorem deaddo_rB (p : EProg) (t : ETrace) (es : List EExit) (j : Nat) (to : List Int) (b : List Bool) : aRun Tryd.prog oc124 Tryd.f24 ⟨[], []⟩ 3000 ([.code (rfB (bodyOf Tryd.f24) 0)] ++ [endL]) (J2 (.junk :: .c (.ptr 0 0 0 0) :: .c (.ptr 1 0 0 0) :: J4 (.junk :: .c (.ptr 3 0 0 0) :: .c (.ptr 4 0 0 0) :: J2 (.c (.ptr 7 0 0 0) :: .c (.int .i64 ((j : Nat) : Int)) :: .c (.ptr 9 0 0 0) :: J32 (J32 (J8 (J4 (.c (.fnc (.fn0 89) (.ptr 8 0 0 0)) :: .c (.int .i64 ((j : Nat) : Int)) :: .agg (Ty.enc tIns (t.2.2.2.1.getD j tIns.dflt)) :: J32 (J8 ([])))))))))) [(bEb1 t), bEb3, .vec 4 .bool b, .cells 108 [.sl 2 1 0 t.2.2.2.1.length], .cells 109 [.fnc (.fn0 51) (.ptr 3 0 0 0)], .ovec 27 tExit es, .vec 3 tI to, .cells 41 [.sl 6 1 0 t.2.2.2.1.length], .cells 22 [.ro tIns t.2.2.2.1], .cells 46 (Ty.enc tIns (t.2.2.2.1.getD j tIns.dflt))] = deaddo_rB_T p t es j to b := by kernel_rfl
theorem deaddo_rnd (p : EProg) (t : ETrace) (es : List EExit) (j : Nat) (to : List Int) (b : List Bool) (hc : CheckOk p t) (hj : j < t.2.2.2.1.length) (hto : to.length = t.2.2.2.1.length) (hb : b.length = t.2.2.2.1.length) : Good Tryd.prog (fun td E1 H1 => td = [.inLoop .skip] ∧ Good Tryd.prog (fun td E2 H2 => td = [.inLoop .skip] ∧ (List.range 9).map (fun b => renB (List.range 9) (rgv H2 b)) = deaddo_H t es (bstep t j (to, b))) (fun _ _ => False) (aRun Tryd.prog oc124 Tryd.f24 ⟨[], []⟩ 3000 ([.code (rfB (bodyOf Tryd.f24) 0)] ++ [endL]) E1 H1)) (fun _ _ => False) (aRun Tryd.prog oc124 Tryd.f24 ⟨[], []⟩ 3000 ([.code (rfA (bodyOf Tryd.f24) 0)] ++ [endL]) (((deaddo_env t).set 94 (.c (.int .i64 ((j : Nat) : Int)))).set 95 (.agg (tIns.enc (t.2.2.2.1.getD j tIns.dflt)))) (deaddo_H t es (to, b))) := by
    rw [deaddo_rA p t es j to b]
    refine ⟨rfl, ?_⟩
    rw [deaddo_rB p t es j to b]
    unfold deaddo_rB_T
    refine g_need (by first | omega | (simp only [List.length_set]; omega) | (rw [List.length_set]; omega) | (constructor <;> omega) | (have := hc.n; rw [i64_iff]; omega) | rfl | (simp; done) | (simp; omega)) ?_
    refine g_need (by first | omega | (simp only [List.length_set]; omega) | (rw [List.length_set]; omega) | (constructor <;> omega) | (have := hc.n; rw [i64_iff]; omega) | rfl | (simp; done) | (simp; omega)) ?_
    refine g_need (by first | omega | (simp only [List.length_set]; omega) | (rw [List.length_set]; omega) | (constructor <;> omega) | (have := hc.n; rw [i64_iff]; omega) | rfl | (simp; done) | (simp; omega)) ?_
    refine g_need (by first | omega | (simp only [List.length_set]; omega) | (rw [List.length_set]; omega) | (constructor <;> omega) | (have := hc.n; rw [i64_iff]; omega) | rfl | (simp; done) | (simp; omega)) ?_
    refine g_ite (fun h0 => ?_) (fun h0 => ?_)
    · refine g_need (by first | omega | (simp only [List.length_set]; omega) | (rw [List.length_set]; omega) | (constructor <;> omega) | (have := hc.n; rw [i64_iff]; omega) | rfl | (simp; done) | (simp; omega)) ?_
      refine g_need (by first | omega | (simp only [List.length_set]; omega) | (rw [List.length_set]; omega) | (constructor <;> omega) | (have := hc.n; rw [i64_iff]; omega) | rfl | (simp; done) | (simp; omega)) ?_
      refine g_call (asks_fun (t.2.2.2.1.getD j tIns.dflt)) (fun h => nomatch h) ?_
      refine g_callH (AFunH.frameB [3, 2] (mark_fun (askF (t.2.2.2.1.getD j tIns.dflt)) t.2.2.2.1.length b (by first | exact (exit_sm hc (by omega)).2 | (rw [hE.at_ (by omega)]; exact (exit_sm hc (by omega)).2) | exact (bare_sm _ _).2 _ | exact turn_in hc | exact dvals_in hc.back.2 | exact asks_in hc hj) (by first | exact hb | (rw [markL_len]; exact hb) | (rw [markL_len, markL_len]; exact hb))) rfl rfl rfl rfl rfl rfl rfl) ?_
      refine g_stop ⟨rfl, ?_⟩; first | (rw [bstep_yes (t := t) (j := j) (to := to) (b := b) (by unfold keepB; simp only [h0, Bool.true_or, Bool.or_true, Bool.false_or, Bool.or_false, Bool.and_true, Bool.true_and, Bool.and_false, Bool.false_and, decide_true, decide_false, Bool.not_true, Bool.not_false])]; rfl) | (rw [bstep_no (t := t) (j := j) (to := to) (b := b) (by unfold keepB; simp only [h0, Bool.true_or, Bool.or_true, Bool.false_or, Bool.or_false, Bool.and_true, Bool.true_and, Bool.and_false, Bool.false_and, decide_true, decide_false, Bool.not_true, Bool.not_false])]; rfl)
    · refine g_iteD (fun h1 => ?_) (fun h1 => ?_)
      · refine g_need (by first | omega | (simp only [List.length_set]; omega) | (rw [List.length_set]; omega) | (constructor <;> omega) | (have := hc.n; rw [i64_iff]; omega) | rfl | (simp; done) | (simp; omega)) ?_
        refine g_need (by first | omega | (simp only [List.length_set]; omega) | (rw [List.length_set]; omega) | (constructor <;> omega) | (have := hc.n; rw [i64_iff]; omega) | rfl | (simp; done) | (simp; omega)) ?_
        refine g_call (asks_fun (t.2.2.2.1.getD j tIns.dflt)) (fun h => nomatch h) ?_
        refine g_callH (AFunH.frameB [3, 2] (mark_fun (askF (t.2.2.2.1.getD j tIns.dflt)) t.2.2.2.1.length b (by first | exact (exit_sm hc (by omega)).2 | (rw [hE.at_ (by omega)]; exact (exit_sm hc (by omega)).2) | exact (bare_sm _ _).2 _ | exact turn_in hc | exact dvals_in hc.back.2 | exact asks_in hc hj) (by first | exact hb | (rw [markL_len]; exact hb) | (rw [markL_len, markL_len]; exact hb))) rfl rfl rfl rfl rfl rfl rfl) ?_
        refine g_stop ⟨rfl, ?_⟩; first | (rw [bstep_yes (t := t) (j := j) (to := to) (b := b) (by unfold keepB; simp only [h0, h1, Bool.true_or, Bool.or_true, Bool.false_or, Bool.or_false, Bool.and_true, Bool.true_and, Bool.and_false, Bool.false_and, decide_true, decide_false, Bool.not_true, Bool.not_false])]; rfl) | (rw [bstep_no (t := t) (j := j) (to := to) (b := b) (by unfold keepB; simp only [h0, h1, Bool.true_or, Bool.or_true, Bool.false_or, Bool.or_false, Bool.and_true, Bool.true_and, Bool.and_false, Bool.false_and, decide_true, decide_false, Bool.not_true, Bool.not_false])]; rfl)
      · refine g_call (tells_fun (t.2.2.2.1.getD j tIns.dflt).1) (fun h => nomatch h) ?_
        refine g_iteN (fun h2 => ?_) (fun h2 => ?_)
        · refine g_need (by first | omega | (simp only [List.length_set]; omega) | (rw [List.length_set]; omega) | (constructor <;> omega) | (have := hc.n; rw [i64_iff]; omega) | rfl | (simp; done) | (simp; omega)) ?_
          refine g_need (by first | omega | (simp only [List.length_set]; omega) | (rw [List.length_set]; omega) | (constructor <;> omega) | (have := hc.n; rw [i64_iff]; omega) | rfl | (simp; done) | (simp; omega)) ?_
          refine g_call (asks_fun (t.2.2.2.1.getD j tIns.dflt)) (fun h => nomatch h) ?_
          refine g_callH (AFunH.frameB [3, 2] (mark_fun (askF (t.2.2.2.1.getD j tIns.dflt)) t.2.2.2.1.length b (by first | exact (exit_sm hc (by omega)).2 | (rw [hE.at_ (by omega)]; exact (exit_sm hc (by omega)).2) | exact (bare_sm _ _).2 _ | exact turn_in hc | exact dvals_in hc.back.2 | exact asks_in hc hj) (by first | exact hb | (rw [markL_len]; exact hb) | (rw [markL_len, markL_len]; exact hb))) rfl rfl rfl rfl rfl rfl rfl) ?_
          refine g_stop ⟨rfl, ?_⟩; first | (rw [bstep_yes (t := t) (j := j) (to := to) (b := b) (by unfold keepB; simp only [h0, h1, h2, Bool.true_or, Bool.or_true, Bool.false_or, Bool.or_false, Bool.and_true, Bool.true_and, Bool.and_false, Bool.false_and, decide_true, decide_false, Bool.not_true, Bool.not_false])]; rfl) | (rw [bstep_no (t := t) (j := j) (to := to) (b := b) (by unfold keepB; simp only [h0, h1, h2, Bool.true_or, Bool.or_true, Bool.false_or, Bool.or_false, Bool.and_true, Bool.true_and, Bool.and_false, Bool.false_and, decide_true, decide_false, Bool.not_true, Bool.not_false])]; rfl)
        · refine g_iteD (fun h3 => ?_) (fun h3 => ?_)
          · refine g_iteD (fun h4 => ?_) (fun h4 => ?_)
            · refine g_need (by first | omega | (simp only [List.length_set]; omega) | (rw [List.length_set]; omega) | (constructor <;> omega) | (have := hc.n; rw [i64_iff]; omega) | rfl | (simp; done) | (simp; omega)) ?_
              refine g_need (by first | omega | (simp only [List.length_set]; omega) | (rw [List.length_set]; omega) | (constructor <;> omega) | (have := hc.n; rw [i64_iff]; omega) | rfl | (simp; done) | (simp; omega)) ?_
              refine g_call (asks_fun (t.2.2.2.1.getD j tIns.dflt)) (fun h => nomatch h) ?_
              refine g_callH (AFunH.frameB [3, 2] (mark_fun (askF (t.2.2.2.1.getD j tIns.dflt)) t.2.2.2.1.length b (by first | exact (exit_sm hc (by omega)).2 | (rw [hE.at_ (by omega)]; exact (exit_sm hc (by omega)).2) | exact (bare_sm _ _).2 _ | exact turn_in hc | exact dvals_in hc.back.2 | exact asks_in hc hj) (by first | exact hb | (rw [markL_len]; exact hb) | (rw [markL_len, markL_len]; exact hb))) rfl rfl rfl rfl rfl rfl rfl) ?_
              refine g_stop ⟨rfl, ?_⟩; first | (rw [bstep_yes (t := t) (j := j) (to := to) (b := b) (by unfold keepB; simp only [h0, h1, h2, h3, h4, Bool.true_or, Bool.or_true, Bool.false_or, Bool.or_false, Bool.and_true, Bool.true_and, Bool.and_false, Bool.false_and, decide_true, decide_false, Bool.not_true, Bool.not_false])]; rfl) | (rw [bstep_no (t := t) (j := j) (to := to) (b := b) (by unfold keepB; simp only [h0, h1, h2, h3, h4, Bool.true_or, Bool.or_true, Bool.false_or, Bool.or_false, Bool.and_true, Bool.true_and, Bool.and_false, Bool.false_and, decide_true, decide_false, Bool.not_true, Bool.not_false])]; rfl)
            · refine g_stop ⟨rfl, ?_⟩; first | (rw [bstep_yes (t := t) (j := j) (to := to) (b := b) (by unfold keepB; simp only [h0, h1, h2, h3, h4, Bool.true_or, Bool.or_true, Bool.false_or, Bool.or_false, Bool.and_true, Bool.true_and, Bool.and_false, Bool.false_and, decide_true, decide_false, Bool.not_true, Bool.not_false])]; rfl) | (rw [bstep_no (t := t) (j := j) (to := to) (b := b) (by unfold keepB; simp only [h0, h1, h2, h3, h4, Bool.true_or, Bool.or_true, Bool.false_or, Bool.or_false, Bool.and_true, Bool.true_and, Bool.and_false, Bool.false_and, decide_true, decide_false, Bool.not_true, Bool.not_false])]; rfl)
          · refine g_stop ⟨rfl, ?_⟩; first | (rw [bstep_yes (t := t) (j := j) (to := to) (b := b) (by unfold keepB; simp only [h0, h1, h2, h3, Bool.true_or, Bool.or_true, Bool.false_or, Bool.or_false, Bool.and_true, Bool.true_and, Bool.and_false, Bool.false_and, decide_true, decide_false, Bool.not_true, Bool.not_false])]; rfl) | (rw [bstep_no (t := t) (j := j) (to := to) (b := b) (by unfold keepB; simp only [h0, h1, h2, h3, Bool.true_or, Bool.or_true, Bool.false_or, Bool.or_false, Bool.and_true, Bool.true_and, Bool.and_false, Bool.false_and, decide_true, decide_false, Bool.not_true, Bool.not_false])]; rfl)
noncomputable def deaddo_g0_R (p : EProg) (t : ETrace) (b : List Bool) (es : List EExit) (to : List Int) : Tree :=
  .need (t.2.2.2.2.1.length = es.length) <|
  .need (0 = 0 ∧ t.2.2.2.1.length = to.length) <|
  .call 22 [.agg [.int .i64 t.1, .int .i64 t.2.1, .int .i64 t.2.2.1, .ro tIns t.2.2.2.1, .ro tExit es, .int .i64 t.2.2.2.2.2.1.1, .int .i64 t.2.2.2.2.2.1.2.1, .ro tVal t.2.2.2.2.2.1.2.2.1, .ro tMake t.2.2.2.2.2.1.2.2.2, .int .i64 t.2.2.2.2.2.2.1, .int .i64 t.2.2.2.2.2.2.2.1, .ro tVal t.2.2.2.2.2.2.2.2.1, .ro tMake t.2.2.2.2.2.2.2.2.2], .c (.ro tI to)] false (.tup [.agg [.int .i64 (cutF (t.1, (t.2.1, (t.2.2.1, (t.2.2.2.1, (es, t.2.2.2.2.2))))) to).1.1, .int .i64 (cutF (t.1, (t.2.1, (t.2.2.1, (t.2.2.2.1, (es, t.2.2.2.2.2))))) to).1.2.1, .int .i64 (cutF (t.1, (t.2.1, (t.2.2.1, (t.2.2.2.1, (es, t.2.2.2.2.2))))) to).1.2.2.1, .ro tIns (cutF (t.1, (t.2.1, (t.2.2.1, (t.2.2.2.1, (es, t.2.2.2.2.2))))) to).1.2.2.2.1, .ro tExit (cutF (t.1, (t.2.1, (t.2.2.1, (t.2.2.2.1, (es, t.2.2.2.2.2))))) to).1.2.2.2.2.1, .int .i64 (cutF (t.1, (t.2.1, (t.2.2.1, (t.2.2.2.1, (es, t.2.2.2.2.2))))) to).1.2.2.2.2.2.1.1, .int .i64 (cutF (t.1, (t.2.1, (t.2.2.1, (t.2.2.2.1, (es, t.2.2.2.2.2))))) to).1.2.2.2.2.2.1.2.1, .ro tVal (cutF (t.1, (t.2.1, (t.2.2.1, (t.2.2.2.1, (es, t.2.2.2.2.2))))) to).1.2.2.2.2.2.1.2.2.1, .ro tMake (cutF (t.1, (t.2.1, (t.2.2.1, (t.2.2.2.1, (es, t.2.2.2.2.2))))) to).1.2.2.2.2.2.1.2.2.2, .int .i64 (cutF (t.1, (t.2.1, (t.2.2.1, (t.2.2.2.1, (es, t.2.2.2.2.2))))) to).1.2.2.2.2.2.2.1, .int .i64 (cutF (t.1, (t.2.1, (t.2.2.1, (t.2.2.2.1, (es, t.2.2.2.2.2))))) to).1.2.2.2.2.2.2.2.1, .ro tVal (cutF (t.1, (t.2.1, (t.2.2.1, (t.2.2.2.1, (es, t.2.2.2.2.2))))) to).1.2.2.2.2.2.2.2.2.1, .ro tMake (cutF (t.1, (t.2.1, (t.2.2.1, (t.2.2.2.1, (es, t.2.2.2.2.2))))) to).1.2.2.2.2.2.2.2.2.2], .c (.int .i64 (cutF (t.1, (t.2.1, (t.2.2.1, (t.2.2.2.1, (es, t.2.2.2.2.2))))) to).2)]) <|
  .ret (.tup [.agg [.int .i64 (cutF (t.1, (t.2.1, (t.2.2.1, (t.2.2.2.1, (es, t.2.2.2.2.2))))) to).1.1, .int .i64 (cutF (t.1, (t.2.1, (t.2.2.1, (t.2.2.2.1, (es, t.2.2.2.2.2))))) to).1.2.1, .int .i64 (cutF (t.1, (t.2.1, (t.2.2.1, (t.2.2.2.1, (es, t.2.2.2.2.2))))) to).1.2.2.1, .ro tIns (cutF (t.1, (t.2.1, (t.2.2.1, (t.2.2.2.1, (es, t.2.2.2.2.2))))) to).1.2.2.2.1, .ro tExit (cutF (t.1, (t.2.1, (t.2.2.1, (t.2.2.2.1, (es, t.2.2.2.2.2))))) to).1.2.2.2.2.1, .int .i64 (cutF (t.1, (t.2.1, (t.2.2.1, (t.2.2.2.1, (es, t.2.2.2.2.2))))) to).1.2.2.2.2.2.1.1, .int .i64 (cutF (t.1, (t.2.1, (t.2.2.1, (t.2.2.2.1, (es, t.2.2.2.2.2))))) to).1.2.2.2.2.2.1.2.1, .ro tVal (cutF (t.1, (t.2.1, (t.2.2.1, (t.2.2.2.1, (es, t.2.2.2.2.2))))) to).1.2.2.2.2.2.1.2.2.1, .ro tMake (cutF (t.1, (t.2.1, (t.2.2.1, (t.2.2.2.1, (es, t.2.2.2.2.2))))) to).1.2.2.2.2.2.1.2.2.2, .int .i64 (cutF (t.1, (t.2.1, (t.2.2.1, (t.2.2.2.1, (es, t.2.2.2.2.2))))) to).1.2.2.2.2.2.2.1, .int .i64 (cutF (t.1, (t.2.1, (t.2.2.1, (t.2.2.2.1, (es, t.2.2.2.2.2))))) to).1.2.2.2.2.2.2.2.1, .ro tVal (cutF (t.1, (t.2.1, (t.2.2.1, (t.2.2.2.1, (es, t.2.2.2.2.2))))) to).1.2.2.2.2.2.2.2.2.1, .ro tMake (cutF (t.1, (t.2.1, (t.2.2.1, (t.2.2.2.1, (es, t.2.2.2.2.2))))) to).1.2.2.2.2.2.2.2.2.2], .c (.int .i64 (cutF (t.1, (t.2.1, (t.2.2.1, (t.2.2.2.1, (es, t.2.2.2.2.2))))) to).2)]) [(bEb1 t), .cells 29 [.int .i64 (cutF (t.1, (t.2.1, (t.2.2.1, (t.2.2.2.1, (es, t.2.2.2.2.2))))) to).1.1, .int .i64 (cutF (t.1, (t.2.1, (t.2.2.1, (t.2.2.2.1, (es, t.2.2.2.2.2))))) to).1.2.1, .int .i64 (cutF (t.1, (t.2.1, (t.2.2.1, (t.2.2.2.1, (es, t.2.2.2.2.2))))) to).1.2.2.1, .ro tIns (cutF (t.1, (t.2.1, (t.2.2.1, (t.2.2.2.1, (es, t.2.2.2.2.2))))) to).1.2.2.2.1, .ro tExit (cutF (t.1, (t.2.1, (t.2.2.1, (t.2.2.2.1, (es, t.2.2.2.2.2))))) to).1.2.2.2.2.1, .int .i64 (cutF (t.1, (t.2.1, (t.2.2.1, (t.2.2.2.1, (es, t.2.2.2.2.2))))) to).1.2.2.2.2.2.1.1, .int .i64 (cutF (t.1, (t.2.1, (t.2.2.1, (t.2.2.2.1, (es, t.2.2.2.2.2))))) to).1.2.2.2.2.2.1.2.1, .ro tVal (cutF (t.1, (t.2.1, (t.2.2.1, (t.2.2.2.1, (es, t.2.2.2.2.2))))) to).1.2.2.2.2.2.1.2.2.1, .ro tMake (cutF (t.1, (t.2.1, (t.2.2.1, (t.2.2.2.1, (es, t.2.2.2.2.2))))) to).1.2.2.2.2.2.1.2.2.2, .int .i64 (cutF (t.1, (t.2.1, (t.2.2.1, (t.2.2.2.1, (es, t.2.2.2.2.2))))) to).1.2.2.2.2.2.2.1, .int .i64 (cutF (t.1, (t.2.1, (t.2.2.1, (t.2.2.2.1, (es, t.2.2.2.2.2))))) to).1.2.2.2.2.2.2.2.1, .ro tVal (cutF (t.1, (t.2.1, (t.2.2.1, (t.2.2.2.1, (es, t.2.2.2.2.2))))) to).1.2.2.2.2.2.2.2.2.1, .ro tMake (cutF (t.1, (t.2.1, (t.2.2.1, (t.2.2.2.1, (es, t.2.2.2.2.2))))) to).1.2.2.2.2.2.2.2.2.2], .vec 4 .bool b, .cells 108 [.sl 2 1 0 t.2.2.2.1.length], .cells 109 [.fnc (.fn0 51) (.ptr 3 0 0 0)], .dead, .dead, .cells 41 [.sl 6 1 0 t.2.2.2.1.length], .cells 22 [.ro tIns t.2.2.2.1]]
theorem deaddo_g0_R_ok (p : EProg) (t : ETrace) (b : List Bool) (es : List EExit) (to : List Int) : aRound Tryd.prog oc124 Tryd.f24 deaddo_lv 3000 (rt (bodyOf Tryd.f24) 0) (J2 (.junk :: .c (.ptr 0 0 0 0) :: .c (.ptr 1 0 0 0) :: J4 (.junk :: .c (.ptr 3 0 0 0) :: .c (.ptr 4 0 0 0) :: J2 (.c (.ptr 7 0 0 0) :: J32 (J32 (J8 (J4 (J2 (.c (.fnc (.fn0 89) (.ptr 8 0 0 0)) :: J32 (J8 (J2 ([])))))))))))) [(bEb1 t), bEb3, .vec 4 .bool b, .cells 108 [.sl 2 1 0 t.2.2.2.1.length], .cells 109 [.fnc (.fn0 51) (.ptr 3 0 0 0)], .ovec 27 tExit es, .vec 3 tI to, .cells 41 [.sl 6 1 0 t.2.2.2.1.length], .cells 22 [.ro tIns t.2.2.2.1]] = deaddo_g0_R p t b es to := by kernel_rfl
theorem deaddo_g0 (p : EProg) (t : ETrace) (b : List Bool) (es : List EExit) (to : List Int) (hs : traceSm (t.1, t.2.1, t.2.2.1, t.2.2.2.1, es, t.2.2.2.2.2)) (he : es = dexitsF t) (ht : to = (backSt t t.2.2.2.1.length).1) (hel : es.length = t.2.2.2.2.1.length) (htl : to.length = t.2.2.2.1.length) : Run Tryd.prog 24 (retQ Tryd.prog (.tup [.agg (Ty.enc tTrace ((cutF (deadT t) (backSt t t.2.2.2.1.length).1).1)), .c (.int .i64 ((cutF (deadT t) (backSt t t.2.2.2.1.length).1).2))])) (rt (bodyOf Tryd.f24) 0) (J2 (.junk :: .c (.ptr 0 0 0 0) :: .c (.ptr 1 0 0 0) :: J4 (.junk :: .c (.ptr 3 0 0 0) :: .c (.ptr 4 0 0 0) :: J2 (.c (.ptr 7 0 0 0) :: J32 (J32 (J8 (J4 (J2 (.c (.fnc (.fn0 89) (.ptr 8 0 0 0)) :: J32 (J8 (J2 ([])))))))))))) [(bEb1 t), bEb3, .vec 4 .bool b, .cells 108 [.sl 2 1 0 t.2.2.2.1.length], .cells 109 [.fnc (.fn0 51) (.ptr 3 0 0 0)], .ovec 27 tExit es, .vec 3 tI to, .cells 41 [.sl 6 1 0 t.2.2.2.1.length], .cells 22 [.ro tIns t.2.2.2.1]] :=
  Run.roundA oc124 deaddo_lv 3000 Tryd.func24 mixed (deaddo_g0_R p t b es to) (deaddo_g0_R_ok p t b es to) (by
    unfold deaddo_g0_R
    refine g_need (by first | omega | (simp only [List.length_set]; omega) | (rw [List.length_set]; omega) | (constructor <;> omega) | (have := hc.n; rw [i64_iff]; omega) | rfl | (simp; done) | (simp; omega)) ?_
    refine g_need (by first | omega | (simp only [List.length_set]; omega) | (rw [List.length_set]; omega) | (constructor <;> omega) | (have := hc.n; rw [i64_iff]; omega) | rfl | (simp; done) | (simp; omega)) ?_
    refine g_call (cut_fun (t.1, (t.2.1, (t.2.2.1, (t.2.2.2.1, (es, t.2.2.2.2.2))))) to (by assumption)) (fun h => nomatch h) ?_
    subst he; subst ht
    refine g_rq ?_
    exact g_rl (⟨⟨⟨rfl, rfl⟩, ⟨rfl, rfl⟩, ⟨rfl, rfl⟩, ⟨rfl, rfl⟩, ⟨rfl, rfl⟩, ⟨rfl, rfl⟩, ⟨rfl, rfl⟩, ⟨rfl, rfl⟩, ⟨rfl, rfl⟩, ⟨rfl, rfl⟩, ⟨rfl, rfl⟩, ⟨rfl, rfl⟩, ⟨rfl, rfl⟩, trivial⟩, ⟨rfl, rfl⟩, trivial⟩) rfl
    )
theorem deaddo_f0 (p : EProg) (t : ETrace) (es : List EExit) (hc : CheckOk p t) (he : es = dexitsF t) : Run Tryd.prog 24 (retQ Tryd.prog (.tup [.agg (Ty.enc tTrace ((cutF (deadT t) (backSt t t.2.2.2.1.length).1).1)), .c (.int .i64 ((cutF (deadT t) (backSt t t.2.2.2.1.length).1).2))])) (rf (bodyOf Tryd.f24) 0) (deaddo_env t) (deaddo_H t es (backSt t 0)) := by
  have e : rf (bodyOf Tryd.f24) 0 = .code (.rangeFunc (.tmp 93) #[94, 95] (rfA (bodyOf Tryd.f24) 0) (rfB (bodyOf Tryd.f24) 0)) :: rt (bodyOf Tryd.f24) 0 := by kernel_rfl
  have hn := hc.n
  have hel : es.length = t.2.2.2.2.1.length := by rw [he]; simp [dexitsF]
  have hsm := dead_sm hc
  rw [e]
  exact RunN.rangeBack (fn := Tryd.f24) (u := tIns) (xs := t.2.2.2.1) (kb := 8) (tb := 22) oc124 ⟨[], []⟩ 3000 mixed back_ins (by kernel_rfl) (by kernel_rfl) rfl (enters_of Tryd.func89 (by decide) rfl) (fun i => deaddo_H t es (backSt t i)) (fun i _ => rfl) rfl (fun i => rfl) (Nat.zero_le _) rfl (fun i hi => by rw [i64_iff]; omega)
    (fun i hi => deaddo_rnd p t es (t.2.2.2.1.length - 1 - i) (backSt t i).1 (backSt t i).2 hc (by omega) (backSt_len t i).1 (backSt_len t i).2)
    (deaddo_g0 p t (backSt t t.2.2.2.1.length).2 es (backSt t t.2.2.2.1.length).1 (by subst he; exact hsm) he rfl hel (backSt_len t _).1)
theorem deaddo_l1 (p : EProg) (t : ETrace) (i : Nat) (us : List Bool) (b : List Bool) (es : List EExit) (hc : CheckOk p t) (hus : us = usedF t) (hbm : b = markN t i) (hE : ExI t i es) (hb : b.length = t.2.2.2.1.length) (hi : i ≤ t.2.2.2.2.1.length) : Run Tryd.prog 24 (retQ Tryd.prog (.tup [.agg (Ty.enc tTrace ((cutF (deadT t) (backSt t t.2.2.2.1.length).1).1)), .c (.int .i64 ((cutF (deadT t) (backSt t t.2.2.2.1.length).1).2))])) (lp (bodyOf Tryd.f24) 1) (J2 (.junk :: .c (.ptr 0 0 0 0) :: .c (.ptr 1 0 0 0) :: J2 (.c (.sl 2 1 0 t.2.2.2.2.1.length) :: J2 (.c (.ptr 4 0 0 0) :: .c (.ptr 5 0 0 0) :: J32 (J8 (.junk :: .c (.osl 6 4 t.2.2.2.2.1.length) :: .c (.int .i64 ((t.2.2.2.2.1.length : Nat) : Int)) :: .c (.int .i64 ((i : Nat) : Int)) :: J32 (J32 (J16 ([]))))))))) [(bEb0 t), bEb3, .vec 4 .bool us, .vec 4 .bool b, .cells 108 [.sl 3 1 0 t.2.2.2.1.length], .cells 109 [.fnc (.fn0 51) (.ptr 4 0 0 0)], .ovec 27 tExit es] :=
  Run.roundA oc124 deaddo_lv 3000 Tryd.func24 mixed (deaddo_l1_R p t i us b es) (deaddo_l1_R_ok p t i us b es) (by
    unfold deaddo_l1_R
    have hE1 := hE.1
    have hul := usedF_len t
    have hul2 : us.length = t.2.2.2.2.1.length := by rw [hus]; exact hul
    have hst := hc.small.2.2.1
    have hsb := hc.small.2.2.2
    refine g_iteD (fun h0 => ?_) (fun h0 => ?_)
    · refine g_need (by first | omega | (have := hc.m; rw [i64_iff]; omega) | (have := hc.n; rw [i64_iff]; omega) | (constructor <;> omega) | rfl | (have := hc.n; constructor <;> omega) | (have := hc.n; omega) | (have := usedF_len t; omega) | (simp; done)) ?_
      refine g_need (by first | omega | (have := hc.m; rw [i64_iff]; omega) | (have := hc.n; rw [i64_iff]; omega) | (constructor <;> omega) | rfl | (have := hc.n; constructor <;> omega) | (have := hc.n; omega) | (have := usedF_len t; omega) | (simp; done)) ?_
      refine g_need (by first | omega | (have := hc.m; rw [i64_iff]; omega) | (have := hc.n; rw [i64_iff]; omega) | (constructor <;> omega) | rfl | (have := hc.n; constructor <;> omega) | (have := hc.n; omega) | (have := usedF_len t; omega) | (simp; done)) ?_
      refine g_need (by first | omega | (have := hc.m; rw [i64_iff]; omega) | (have := hc.n; rw [i64_iff]; omega) | (constructor <;> omega) | rfl | (have := hc.n; constructor <;> omega) | (have := hc.n; omega) | (have := usedF_len t; omega) | (simp; done)) ?_
      refine g_iteN (fun h1 => ?_) (fun h1 => ?_)
      · refine g_need (by first | omega | (have := hc.m; rw [i64_iff]; omega) | (have := hc.n; rw [i64_iff]; omega) | (constructor <;> omega) | rfl | (have := hc.n; constructor <;> omega) | (have := hc.n; omega) | (have := usedF_len t; omega) | (simp; done)) ?_
        refine g_need (by first | omega | (have := hc.m; rw [i64_iff]; omega) | (have := hc.n; rw [i64_iff]; omega) | (constructor <;> omega) | rfl | (have := hc.n; constructor <;> omega) | (have := hc.n; omega) | (have := usedF_len t; omega) | (simp; done)) ?_
        refine g_callA (dval_fun ((es.getD i tExit.dflt).1, ((es.getD i tExit.dflt).2.1, ([], []))) (by first | exact (exit_sm hc (by omega)).1 | (rw [hE.at_ (by omega)]; exact (exit_sm hc (by omega)).1) | exact (bare_sm _ _).1 | exact hst | exact hsb)) (by simp [leAVs, leAV, leA1, leCs, leC, Ty.enc]) (fun h => nomatch h) ?_
        refine g_callH (AFunH.frameB [4, 3] (mark_fun (dvals ((es.getD i tExit.dflt).1, ((es.getD i tExit.dflt).2.1, ([], [])))) t.2.2.2.1.length b (by first | exact (exit_sm hc (by omega)).2 | (rw [hE.at_ (by omega)]; exact (exit_sm hc (by omega)).2) | exact (bare_sm _ _).2 _ | exact turn_in hc | exact dvals_in hc.back.2 | exact asks_in hc hj) (by first | exact hb | (rw [markL_len]; exact hb) | (rw [markL_len, markL_len]; exact hb))) rfl rfl rfl rfl rfl rfl rfl) ?_
        refine g_need (by first | omega | (have := hc.m; rw [i64_iff]; omega) | (have := hc.n; rw [i64_iff]; omega) | (constructor <;> omega) | rfl | (have := hc.n; constructor <;> omega) | (have := hc.n; omega) | (have := usedF_len t; omega) | (simp; done)) ?_
        refine g_stop (RunN.keep [0, 1, 2, 3, 4, 5, 6] (F2 (false :: true :: true :: F2 (true :: F2 (true :: true :: F32 (F8 (false :: true :: true :: true :: F32 (F32 (F16 ([]))))))))) n0 (by decide) rfl rfl ?_)
        (have eI := hE.at_ (by omega : i < t.2.2.2.2.1.length)); (try rw [eI]); (have hu := h1); (rw [hus, Nat.zero_add] at hu); exact deaddo_l1 p t (i + 1) us (markL (dvals ((t.2.2.2.2.1.getD i tExit.dflt).1, ((t.2.2.2.2.1.getD i tExit.dflt).2.1, ([], [])))) b) (es.set i ((t.2.2.2.2.1.getD i tExit.dflt).1, ((t.2.2.2.2.1.getD i tExit.dflt).2.1, ([], [])))) hc hus (show markL (dvals _) b = markN t (i + 1) from by unfold markN; rw [← hbm, dexit_yes hu]) (hE.yes (by omega) (dexit_yes hu)) (by rw [markL_len]; exact hb) (by omega)
      · refine g_call (dval_fun (es.getD i tExit.dflt) (by first | exact (exit_sm hc (by omega)).1 | (rw [hE.at_ (by omega)]; exact (exit_sm hc (by omega)).1) | exact (bare_sm _ _).1 | exact hst | exact hsb)) (fun h => nomatch h) ?_
        refine g_callH (AFunH.frameB [4, 3] (mark_fun (dvals (es.getD i tExit.dflt)) t.2.2.2.1.length b (by first | exact (exit_sm hc (by omega)).2 | (rw [hE.at_ (by omega)]; exact (exit_sm hc (by omega)).2) | exact (bare_sm _ _).2 _ | exact turn_in hc | exact dvals_in hc.back.2 | exact asks_in hc hj) (by first | exact hb | (rw [markL_len]; exact hb) | (rw [markL_len, markL_len]; exact hb))) rfl rfl rfl rfl rfl rfl rfl) ?_
        refine g_need (by first | omega | (have := hc.m; rw [i64_iff]; omega) | (have := hc.n; rw [i64_iff]; omega) | (constructor <;> omega) | rfl | (have := hc.n; constructor <;> omega) | (have := hc.n; omega) | (have := usedF_len t; omega) | (simp; done)) ?_
        refine g_stop (RunN.keep [0, 1, 2, 3, 4, 5, 6] (F2 (false :: true :: true :: F2 (true :: F2 (true :: true :: F32 (F8 (false :: true :: true :: true :: F32 (F32 (F16 ([]))))))))) n0 (by decide) rfl rfl ?_)
        (have eI := hE.at_ (by omega : i < t.2.2.2.2.1.length)); (try rw [eI]); (have hu := h1); (rw [hus, Nat.zero_add] at hu); exact deaddo_l1 p t (i + 1) us (markL (dvals (t.2.2.2.2.1.getD i tExit.dflt)) b) es hc hus (show markL (dvals _) b = markN t (i + 1) from by unfold markN; rw [← hbm, dexit_no hu]) (hE.no (by omega) (dexit_no hu)) (by rw [markL_len]; exact hb) (by omega)
    · refine g_call (dval_fun t.2.2.2.2.2.1 (by first | exact (exit_sm hc (by omega)).1 | (rw [hE.at_ (by omega)]; exact (exit_sm hc (by omega)).1) | exact (bare_sm _ _).1 | exact hst | exact hsb)) (fun h => nomatch h) ?_
      refine g_callH (AFunH.frameB [4, 3] (mark_fun (dvals t.2.2.2.2.2.1) t.2.2.2.1.length b (by first | exact (exit_sm hc (by omega)).2 | (rw [hE.at_ (by omega)]; exact (exit_sm hc (by omega)).2) | exact (bare_sm _ _).2 _ | exact turn_in hc | exact dvals_in hc.back.2 | exact asks_in hc hj) (by first | exact hb | (rw [markL_len]; exact hb) | (rw [markL_len, markL_len]; exact hb))) rfl rfl rfl rfl rfl rfl rfl) ?_
      refine g_call (dval_fun t.2.2.2.2.2.2 (by first | exact (exit_sm hc (by omega)).1 | (rw [hE.at_ (by omega)]; exact (exit_sm hc (by omega)).1) | exact (bare_sm _ _).1 | exact hst | exact hsb)) (fun h => nomatch h) ?_
      refine g_callH (AFunH.frameB [4, 3] (mark_fun (dvals t.2.2.2.2.2.2) t.2.2.2.1.length (markL (dvals t.2.2.2.2.2.1) b) (by first | exact (exit_sm hc (by omega)).2 | (rw [hE.at_ (by omega)]; exact (exit_sm hc (by omega)).2) | exact (bare_sm _ _).2 _ | exact turn_in hc | exact dvals_in hc.back.2 | exact asks_in hc hj) (by first | exact hb | (rw [markL_len]; exact hb) | (rw [markL_len, markL_len]; exact hb))) rfl rfl rfl rfl rfl rfl rfl) ?_
      refine g_need (by first | omega | (have := hc.m; rw [i64_iff]; omega) | (have := hc.n; rw [i64_iff]; omega) | (constructor <;> omega) | rfl | (have := hc.n; constructor <;> omega) | (have := hc.n; omega) | (have := usedF_len t; omega) | (simp; done)) ?_
      refine g_callH (AFunH.frameB [] (backw_fun t.2.2.2.1) rfl rfl rfl rfl rfl rfl rfl) ?_
      refine g_stop (RunN.keep [0, 1, 3, 4, 5, 6, 7, 8, 9] (F2 (false :: true :: true :: F4 (false :: true :: true :: F2 (true :: F32 (F32 (F8 (F4 (F2 (true :: F32 (F8 (F2 ([])))))))))))) n0 (by decide) rfl rfl ?_)
      have ei : i = t.2.2.2.2.1.length := (by omega); subst ei; subst hbm; exact deaddo_f0 p t es hc hE.done
    )
  termination_by t.2.2.2.2.1.length - i
  decreasing_by all_goals omega
theorem deaddo_l0 (p : EProg) (t : ETrace) (i : Nat) (us : List Bool) (hc : CheckOk p t) (hus : usedL (t.2.2.2.1.drop i) us = usedF t) (hul : us.length = t.2.2.2.2.1.length) (hi : i ≤ t.2.2.2.1.length) : Run Tryd.prog 24 (retQ Tryd.prog (.tup [.agg (Ty.enc tTrace ((cutF (deadT t) (backSt t t.2.2.2.1.length).1).1)), .c (.int .i64 ((cutF (deadT t) (backSt t t.2.2.2.1.length).1).2))])) (lp (bodyOf Tryd.f24) 0) (J2 (.junk :: .c (.ptr 0 0 0 0) :: .c (.ptr 1 0 0 0) :: J2 (.c (.sl 2 1 0 t.2.2.2.2.1.length) :: J16 (J4 (.junk :: .c (.ro tIns t.2.2.2.1) :: .c (.int .i64 (t.2.2.2.1.length : Int)) :: .c (.int .i64 ((i : Nat) : Int)) :: J32 (J32 (J32 (J8 ([]))))))))) [.cells 29 (Ty.enc tTrace t), bEb3, .vec 4 .bool us] :=
  Run.roundA oc124 deaddo_lv 3000 Tryd.func24 mixed (deaddo_l0_R p t i us) (deaddo_l0_R_ok p t i us) (by
    unfold deaddo_l0_R
    refine g_iteD (fun h0 => ?_) (fun h0 => ?_)
    · refine g_need (by first | (have := exit_lt hc (by omega : i < t.2.2.2.1.length) (by assumption); omega) | (have := exit_lt hc (by omega : i < t.2.2.2.1.length) (by assumption); constructor <;> omega) | (have := hc.m; omega) | (have := hc.m; constructor <;> omega) | omega | (have := hc.m; rw [i64_iff]; omega) | (have := hc.n; rw [i64_iff]; omega) | (constructor <;> omega) | rfl | (have := hc.n; constructor <;> omega) | (have := hc.n; omega) | (have := usedF_len t; omega) | (simp; done)) ?_
      refine g_need (by first | (have := exit_lt hc (by omega : i < t.2.2.2.1.length) (by assumption); omega) | (have := exit_lt hc (by omega : i < t.2.2.2.1.length) (by assumption); constructor <;> omega) | (have := hc.m; omega) | (have := hc.m; constructor <;> omega) | omega | (have := hc.m; rw [i64_iff]; omega) | (have := hc.n; rw [i64_iff]; omega) | (constructor <;> omega) | rfl | (have := hc.n; constructor <;> omega) | (have := hc.n; omega) | (have := usedF_len t; omega) | (simp; done)) ?_
      refine g_iteD (fun h1 => ?_) (fun h1 => ?_)
      · refine g_need (by first | (have := exit_lt hc (by omega : i < t.2.2.2.1.length) (by assumption); omega) | (have := exit_lt hc (by omega : i < t.2.2.2.1.length) (by assumption); constructor <;> omega) | (have := hc.m; omega) | (have := hc.m; constructor <;> omega) | omega | (have := hc.m; rw [i64_iff]; omega) | (have := hc.n; rw [i64_iff]; omega) | (constructor <;> omega) | rfl | (have := hc.n; constructor <;> omega) | (have := hc.n; omega) | (have := usedF_len t; omega) | (simp; done)) ?_
        refine g_need (by first | (have := exit_lt hc (by omega : i < t.2.2.2.1.length) (by assumption); omega) | (have := exit_lt hc (by omega : i < t.2.2.2.1.length) (by assumption); constructor <;> omega) | (have := hc.m; omega) | (have := hc.m; constructor <;> omega) | omega | (have := hc.m; rw [i64_iff]; omega) | (have := hc.n; rw [i64_iff]; omega) | (constructor <;> omega) | rfl | (have := hc.n; constructor <;> omega) | (have := hc.n; omega) | (have := usedF_len t; omega) | (simp; done)) ?_
        refine g_need (by first | (have := exit_lt hc (by omega : i < t.2.2.2.1.length) (by assumption); omega) | (have := exit_lt hc (by omega : i < t.2.2.2.1.length) (by assumption); constructor <;> omega) | (have := hc.m; omega) | (have := hc.m; constructor <;> omega) | omega | (have := hc.m; rw [i64_iff]; omega) | (have := hc.n; rw [i64_iff]; omega) | (constructor <;> omega) | rfl | (have := hc.n; constructor <;> omega) | (have := hc.n; omega) | (have := usedF_len t; omega) | (simp; done)) ?_
        refine g_stop (RunN.keep [0, 1, 2] (F2 (false :: true :: true :: F2 (true :: F16 (F4 (false :: true :: true :: true :: F32 (F32 (F32 (F8 ([]))))))))) n0 (by decide) rfl rfl ?_)
        exact deaddo_l0 p t (i + 1) (us.set (0 + (Int.toNat (t.2.2.2.1.getD i tIns.dflt).2.2.2.2.2.1)) true) hc (by rw [← hus, dropCons (α := EIns) (Ty.dflt tIns) (by omega : i < t.2.2.2.1.length), usedL]; first | rw [if_pos h1] | rw [if_neg h1]) (by first | exact hul | (rw [List.length_set]; exact hul)) (by omega)
      · refine g_need (by first | (have := exit_lt hc (by omega : i < t.2.2.2.1.length) (by assumption); omega) | (have := exit_lt hc (by omega : i < t.2.2.2.1.length) (by assumption); constructor <;> omega) | (have := hc.m; omega) | (have := hc.m; constructor <;> omega) | omega | (have := hc.m; rw [i64_iff]; omega) | (have := hc.n; rw [i64_iff]; omega) | (constructor <;> omega) | rfl | (have := hc.n; constructor <;> omega) | (have := hc.n; omega) | (have := usedF_len t; omega) | (simp; done)) ?_
        refine g_stop (RunN.keep [0, 1, 2] (F2 (false :: true :: true :: F2 (true :: F16 (F4 (false :: true :: true :: true :: F32 (F32 (F32 (F8 ([]))))))))) n0 (by decide) rfl rfl ?_)
        exact deaddo_l0 p t (i + 1) us hc (by rw [← hus, dropCons (α := EIns) (Ty.dflt tIns) (by omega : i < t.2.2.2.1.length), usedL]; first | rw [if_pos h1] | rw [if_neg h1]) (by first | exact hul | (rw [List.length_set]; exact hul)) (by omega)
    · refine g_need (by first | (have := exit_lt hc (by omega : i < t.2.2.2.1.length) (by assumption); omega) | (have := exit_lt hc (by omega : i < t.2.2.2.1.length) (by assumption); constructor <;> omega) | (have := hc.m; omega) | (have := hc.m; constructor <;> omega) | omega | (have := hc.m; rw [i64_iff]; omega) | (have := hc.n; rw [i64_iff]; omega) | (constructor <;> omega) | rfl | (have := hc.n; constructor <;> omega) | (have := hc.n; omega) | (have := usedF_len t; omega) | (simp; done)) ?_
      refine g_callH (AFunH.frameB [] (cloneX_fun t.2.2.2.2.1 (by have := hc.m; omega)) rfl rfl rfl rfl rfl rfl rfl) ?_
      refine g_stop (RunN.keep [0, 1, 2, 3, 4, 5, 6] (F2 (false :: true :: true :: F2 (true :: F2 (true :: true :: F32 (F8 (false :: true :: true :: true :: F32 (F32 (F16 ([]))))))))) n0 (by decide) rfl rfl ?_)
      have hus2 : us = usedF t := (by rw [← hus, List.drop_eq_nil_of_le (by omega), usedL]); exact deaddo_l1 p t 0 us (List.replicate t.2.2.2.1.length false) t.2.2.2.2.1 hc hus2 rfl (ExI.start t) (by simp) (Nat.zero_le _)
    )
  termination_by t.2.2.2.1.length - i
  decreasing_by all_goals omega
theorem deaddo_fun (p : EProg) (t : ETrace) : AFun Tryd.prog 24 [.agg (tProg.enc p), .agg (tTrace.enc t)] (.tup [.agg (Ty.enc tTrace ((deadDo p t).1)), .c (.int .i64 ((deadDo p t).2))]) :=
  AFun.of oc124 deaddo_lv 3000 Tryd.func24 mixed rfl (by decide) (Nat.le_of_ble_eq_true rfl) _ (deaddo_T_ok p t) fun hF => by
    unfold deaddo_T
    refine g_call (check_fun p t) (fun h => nomatch h) ?_
    refine g_iteND (fun h0 => ?_) (fun h0 => ?_)
    · rw [deadDo, if_neg (by assumption)]
      refine g_rq ?_
      exact g_rl (⟨⟨⟨rfl, rfl⟩, ⟨rfl, rfl⟩, ⟨rfl, rfl⟩, rfl, rfl, ⟨rfl, rfl⟩, ⟨rfl, rfl⟩, rfl, rfl, ⟨rfl, rfl⟩, ⟨rfl, rfl⟩, rfl, rfl, trivial⟩, ⟨rfl, rfl⟩, trivial⟩) rfl
    · refine g_need (by first | (have hc := check_iff.1 h0; have := hc.m; omega) | (have hc := check_iff.1 h0; have := hc.m; constructor <;> omega) | (have hc := check_iff.1 h0; have := hc.m; refine ⟨?_, ?_, ?_, ?_⟩ <;> omega) | rfl | (simp; done)) ?_
      refine g_stop (RunN.keep [1, 2, 3] (F2 (false :: true :: true :: F2 (true :: F16 (F4 (false :: true :: true :: true :: F32 (F32 (F32 (F8 ([]))))))))) n0 (by decide) rfl rfl ?_)
      have hc := check_iff.1 h0; have ht := deaddo_l0 p t 0 (List.replicate t.2.2.2.2.1.length false) hc rfl (by simp) (Nat.zero_le _); rw [deadDo, if_pos h0]; exact ht

end Go.Proofs.YtefkifdhjabdiaaDoor
namespace Go.Proofs.YtefkifdhjabdiaaDoor
set_option maxHeartbeats 4000000
set_option linter.unusedVariables false
set_option linter.unusedSimpArgs false
set_option maxRecDepth 100000
def hasI_lv : LV := ⟨(false :: true :: F4 (false :: true :: true :: true :: F4 (F2 (false :: [])))), []⟩
noncomputable def hasI_T (l : List Int) (v : Int) : Tree :=
  .stop (lp (bodyOf Tryd.f26) 0) (.junk :: .c (.int .i64 v) :: J4 (.junk :: .c (.ro tI l) :: .c (.int .i64 (l.length : Int)) :: .c (.int .i64 0) :: J4 (J2 (.junk :: [])))) []
theorem hasI_T_ok (l : List Int) (v : Int) : aRun Tryd.prog oc0 Tryd.f26 hasI_lv 3000 [.code (bodyOf Tryd.f26)] ([.c (.ro tI l), .c (.int .i64 v)] ++ List.replicate (Func.ntmps Tryd.f26 - 2) .junk) [] = hasI_T l v := by kernel_rfl
noncomputable def hasI_l0_R (l : List Int) (v : Int) (i : Nat) : Tree :=
  .ite (decide (((i : Nat) : Int) < (l.length : Int)))
  (.need ((0 : Int) ≤ ((i : Nat) : Int) ∧ (((i : Nat) : Int) : Int) < (l.length : Int)) <|
   .need (i < l.length) <|
   .ite (decide (v = (l.getD i tI.dflt)))
   (.ret (.c (.lit true)) [])
   (.need (inR .i64 (((i : Nat) : Int) + 1)) <|
    .stop (lp (bodyOf Tryd.f26) 0) (.junk :: .c (.int .i64 v) :: J4 (.junk :: .c (.ro tI l) :: .c (.int .i64 (l.length : Int)) :: .c (.int .i64 (((i : Nat) : Int) + 1)) :: J4 (J2 (.junk :: [])))) []))
  (.ret (.c (.lit false)) [])
theorem hasI_l0_R_ok (l : List Int) (v : Int) (i : Nat) : aRound Tryd.prog oc0 Tryd.f26 hasI_lv 3000 (lp (bodyOf Tryd.f26) 0) (.junk :: .c (.int .i64 v) :: J4 (.junk :: .c (.ro tI l) :: .c (.int .i64 (l.length : Int)) :: .c (.int .i64 ((i : Nat) : Int)) :: J4 (J2 (.junk :: [])))) [] = hasI_l0_R l v i := by kernel_rfl
theorem hasI_l0 (l : List Int) (v : Int) (i : Nat) (hl : Ty.ok (.slice tI) l) : Run Tryd.prog 26 (retQ Tryd.prog (.c (.bool (decide (v ∈ l.drop i))))) (lp (bodyOf Tryd.f26) 0) (.junk :: .c (.int .i64 v) :: J4 (.junk :: .c (.ro tI l) :: .c (.int .i64 (l.length : Int)) :: .c (.int .i64 ((i : Nat) : Int)) :: J4 (J2 (.junk :: [])))) [] :=
  Run.roundA oc0 hasI_lv 3000 Tryd.func26 mixed (hasI_l0_R l v i) (hasI_l0_R_ok l v i) (by
    unfold hasI_l0_R
    refine g_iteD (fun h0 => ?_) (fun h0 => ?_)
    · refine g_need (by omega) ?_
      refine g_need (by omega) ?_
      refine g_iteD (fun h1 => ?_) (fun h1 => ?_)
      · exact g_retl (by first | (rw [List.drop_eq_nil_of_le (by omega)]; rfl) | (symm; rw [decide_eq_true_iff, dropCons (α := Int) (Ty.dflt tI) (by omega : i < l.length), List.mem_cons]; left; simp_all; done))
      · refine g_need (by first | omega | (constructor <;> omega) | (have := hl.1; rw [i64_iff]; omega) | (rw [i64_iff]; constructor <;> omega) | rfl | (simp; done)) ?_
        refine g_stop (RunN.keep [] (false :: true :: F4 (false :: true :: true :: true :: F4 (F2 (false :: [])))) n0 (by decide) rfl rfl ?_)
        have ht := hasI_l0 l v (i + 1) hl; have e : decide (v ∈ l.drop i) = decide (v ∈ l.drop (i + 1)) := (by rw [decide_eq_decide, dropCons (α := Int) (Ty.dflt tI) (by omega : i < l.length), List.mem_cons]; constructor; (intro q; exact q.resolve_left (fun q => by simp_all)); exact Or.inr); rw [e]; exact ht
    · exact g_retl (by first | (rw [List.drop_eq_nil_of_le (by omega)]; rfl) | (symm; rw [decide_eq_true_iff, dropCons (α := Int) (Ty.dflt tI) (by omega : i < l.length), List.mem_cons]; left; simp_all; done))
    )
  termination_by l.length - i
  decreasing_by all_goals omega
theorem hasI_fun (l : List Int) (v : Int) : AFun Tryd.prog 26 [.c (.ro tI l), .c (.int .i64 v)] (.c (.bool (decide (v ∈ l)))) :=
  AFun.of oc0 hasI_lv 3000 Tryd.func26 mixed rfl (by decide) (Nat.le_of_ble_eq_true rfl) _ (hasI_T_ok l v) fun hF => by
    unfold hasI_T
    refine g_stop (RunN.keep [] (false :: true :: F4 (false :: true :: true :: true :: F4 (F2 (false :: [])))) n0 (by decide) rfl rfl ?_)
    exact hasI_l0 l v 0 hF.ro.1

noncomputable def oc125 : Orc where
  pure := fun f args => match f, args with
    | 26, [a0, a1] => match dA (.slice tI) a0, dA tI a1 with
      | some x0, some x1 => some (.c (.bool (decide (x1 ∈ x0))))
      | _, _ => none
    | _, _ => none
  heap := fun _ _ _ => none
def namesX_lv : LV := ⟨(false :: true :: true :: F4 (F2 (false :: true :: true :: true :: F8 (false :: true :: true :: true :: F8 (F4 (F2 ([]))))))), []⟩
noncomputable def namesX_T (x : EExit) (v : Int) : Tree :=
  .stop (lp (bodyOf Tryd.f25) 0) (.junk :: .c (.int .i64 v) :: .c (.ptr 0 0 0 0) :: J4 (J2 (.junk :: .c (.ro tVal x.2.2.1) :: .c (.int .i64 (x.2.2.1.length : Int)) :: .c (.int .i64 0) :: J16 (J8 (J2 ([])))))) [.cells 27 (Ty.enc tExit x)]
theorem namesX_T_ok (x : EExit) (v : Int) : aRun Tryd.prog oc125 Tryd.f25 namesX_lv 3000 [.code (bodyOf Tryd.f25)] ([.agg (tExit.enc x), .c (.int .i64 v)] ++ List.replicate (Func.ntmps Tryd.f25 - 2) .junk) [] = namesX_T x v := by kernel_rfl
noncomputable def namesX_l1_R (x : EExit) (v : Int) (j : Nat) : Tree :=
  .ite (decide (((j : Nat) : Int) < (x.2.2.2.length : Int)))
  (.need ((0 : Int) ≤ ((j : Nat) : Int) ∧ (((j : Nat) : Int) : Int) < (x.2.2.2.length : Int)) <|
   .need (j < x.2.2.2.length) <|
   .ite (decide ((x.2.2.2.getD j tMake.dflt).1 = v))
   (.ret (.c (.lit true)) [.cells 118 [.int .i64 (x.2.2.2.getD j tMake.dflt).1, .int .i64 (x.2.2.2.getD j tMake.dflt).2.1, .int .i64 (x.2.2.2.getD j tMake.dflt).2.2.1, .ro tI (x.2.2.2.getD j tMake.dflt).2.2.2]])
   (.call 26 [.c (.ro tI (x.2.2.2.getD j tMake.dflt).2.2.2), .c (.int .i64 v)] false (.c (.bool (decide (v ∈ (x.2.2.2.getD j tMake.dflt).2.2.2)))) <|
    .ite (decide (v ∈ (x.2.2.2.getD j tMake.dflt).2.2.2))
    (.ret (.c (.lit true)) [.cells 118 [.int .i64 (x.2.2.2.getD j tMake.dflt).1, .int .i64 (x.2.2.2.getD j tMake.dflt).2.1, .int .i64 (x.2.2.2.getD j tMake.dflt).2.2.1, .ro tI (x.2.2.2.getD j tMake.dflt).2.2.2]])
    (.need (inR .i64 (((j : Nat) : Int) + 1)) <|
     .stop (lp (bodyOf Tryd.f25) 1) (.junk :: .c (.int .i64 v) :: J16 (J4 (.c (.ro tMake x.2.2.2) :: .c (.int .i64 (x.2.2.2.length : Int)) :: .c (.int .i64 (((j : Nat) : Int) + 1)) :: J8 (J4 (J2 ([])))))) [.cells 118 [.int .i64 (x.2.2.2.getD j tMake.dflt).1, .int .i64 (x.2.2.2.getD j tMake.dflt).2.1, .int .i64 (x.2.2.2.getD j tMake.dflt).2.2.1, .ro tI (x.2.2.2.getD j tMake.dflt).2.2.2]])))
  (.ret (.c (.lit false)) [])
theorem namesX_l1_R_ok (x : EExit) (v : Int) (j : Nat) : aRound Tryd.prog oc125 Tryd.f25 namesX_lv 3000 (lp (bodyOf Tryd.f25) 1) (.junk :: .c (.int .i64 v) :: J16 (J4 (.c (.ro tMake x.2.2.2) :: .c (.int .i64 (x.2.2.2.length : Int)) :: .c (.int .i64 ((j : Nat) : Int)) :: J8 (J4 (J2 ([])))))) [] = namesX_l1_R x v j := by kernel_rfl
noncomputable def namesX_l0_R (x : EExit) (v : Int) (i : Nat) : Tree :=
  .ite (decide (((i : Nat) : Int) < (x.2.2.1.length : Int)))
  (.need ((0 : Int) ≤ ((i : Nat) : Int) ∧ (((i : Nat) : Int) : Int) < (x.2.2.1.length : Int)) <|
   .need (i < x.2.2.1.length) <|
   .ite (decide ((x.2.2.1.getD i tVal.dflt).2 = v))
   (.ret (.c (.lit true)) [.cells 27 (Ty.enc tExit x), .cells 116 [.int .i64 (x.2.2.1.getD i tVal.dflt).1, .int .i64 (x.2.2.1.getD i tVal.dflt).2]])
   (.need (inR .i64 (((i : Nat) : Int) + 1)) <|
    .stop (lp (bodyOf Tryd.f25) 0) (.junk :: .c (.int .i64 v) :: .c (.ptr 0 0 0 0) :: J4 (J2 (.junk :: .c (.ro tVal x.2.2.1) :: .c (.int .i64 (x.2.2.1.length : Int)) :: .c (.int .i64 (((i : Nat) : Int) + 1)) :: J16 (J8 (J2 ([])))))) [.cells 27 (Ty.enc tExit x), .cells 116 [.int .i64 (x.2.2.1.getD i tVal.dflt).1, .int .i64 (x.2.2.1.getD i tVal.dflt).2]]))
  (.stop (lp (bodyOf Tryd.f25) 1) (.junk :: .c (.int .i64 v) :: .c (.ptr 0 0 0 0) :: J4 (J2 (.junk :: .c (.ro tVal x.2.2.1) :: .c (.int .i64 (x.2.2.1.length : Int)) :: .c (.int .i64 ((i : Nat) : Int)) :: J8 (.junk :: .c (.ro tMake x.2.2.2) :: .c (.int .i64 (x.2.2.2.length : Int)) :: .c (.int .i64 0) :: J8 (J4 (J2 ([]))))))) [.cells 27 (Ty.enc tExit x)])
theorem namesX_l0_R_ok (x : EExit) (v : Int) (i : Nat) : aRound Tryd.prog oc125 Tryd.f25 namesX_lv 3000 (lp (bodyOf Tryd.f25) 0) (.junk :: .c (.int .i64 v) :: .c (.ptr 0 0 0 0) :: J4 (J2 (.junk :: .c (.ro tVal x.2.2.1) :: .c (.int .i64 (x.2.2.1.length : Int)) :: .c (.int .i64 ((i : Nat) : Int)) :: J16 (J8 (J2 ([])))))) [.cells 27 (Ty.enc tExit x)] = namesX_l0_R x v i := by kernel_rfl
theorem mk_step {x : EExit} {v : Int} {j : Nat} (hj : j < x.2.2.2.length) : v ∈ (x.2.2.2.drop j).flatMap (fun m => m.1 :: m.2.2.2) ↔ (x.2.2.2.getD j tMake.dflt).1 = v ∨ v ∈ (x.2.2.2.getD j tMake.dflt).2.2.2 ∨ v ∈ (x.2.2.2.drop (j + 1)).flatMap (fun m => m.1 :: m.2.2.2) := by
  rw [dropCons (α := EMake) (Ty.dflt tMake) hj, List.flatMap_cons, List.mem_append, List.mem_cons, or_assoc]
  exact or_congr eq_comm Iff.rfl
theorem st_step {x : EExit} {v : Int} {i : Nat} (hi : i < x.2.2.1.length) : v ∈ (x.2.2.1.drop i).map (fun s => s.2) ↔ (x.2.2.1.getD i tVal.dflt).2 = v ∨ v ∈ (x.2.2.1.drop (i + 1)).map (fun s => s.2) := by
  rw [dropCons (α := EVal) (Ty.dflt tVal) hi, List.map_cons, List.mem_cons]
  exact or_congr eq_comm Iff.rfl
theorem namesX_l1 (x : EExit) (v : Int) (j : Nat) (hs : x.2.2.1.length ≤ 1000000 ∧ x.2.2.2.length ≤ 1000000)  : Run Tryd.prog 25 (retQ Tryd.prog (.c (.bool (decide (v ∈ (x.2.2.2.drop j).flatMap fun m => m.1 :: m.2.2.2))))) (lp (bodyOf Tryd.f25) 1) (.junk :: .c (.int .i64 v) :: J16 (J4 (.c (.ro tMake x.2.2.2) :: .c (.int .i64 (x.2.2.2.length : Int)) :: .c (.int .i64 ((j : Nat) : Int)) :: J8 (J4 (J2 ([])))))) [] :=
  Run.roundA oc125 namesX_lv 3000 Tryd.func25 mixed (namesX_l1_R x v j) (namesX_l1_R_ok x v j) (by
    unfold namesX_l1_R
    refine g_iteD (fun h0 => ?_) (fun h0 => ?_)
    · refine g_need (by omega) ?_
      refine g_need (by omega) ?_
      refine g_iteD (fun h1 => ?_) (fun h1 => ?_)
      · exact g_retl (by first | (rw [List.drop_eq_nil_of_le (by omega)]; rfl) | (symm; rw [decide_eq_true_iff, mk_step (by omega)]; simp_all; done))
      · refine g_call (hasI_fun (x.2.2.2.getD j tMake.dflt).2.2.2 v) (fun h => nomatch h) ?_
        refine g_iteD (fun h2 => ?_) (fun h2 => ?_)
        · exact g_retl (by first | (rw [List.drop_eq_nil_of_le (by omega)]; rfl) | (symm; rw [decide_eq_true_iff, mk_step (by omega)]; simp_all; done))
        · refine g_need (by first | omega | rfl | (constructor <;> omega) | (have q1 := hs.1; have q2 := hs.2; (rw [i64_iff]; omega)) | (simp; done)) ?_
          refine g_stop (RunN.keep [] (false :: true :: F16 (F4 (true :: true :: true :: F8 (F4 (F2 ([])))))) n0 (by decide) rfl rfl ?_)
          have ht := namesX_l1 x v (j + 1) hs; have e : decide (v ∈ (x.2.2.2.drop j).flatMap fun m => m.1 :: m.2.2.2) = decide (v ∈ (x.2.2.2.drop (j + 1)).flatMap fun m => m.1 :: m.2.2.2) := (by rw [decide_eq_decide, mk_step (by omega)]; simp_all); rw [e]; exact ht
    · exact g_retl (by first | (rw [List.drop_eq_nil_of_le (by omega)]; rfl) | (symm; rw [decide_eq_true_iff, mk_step (by omega)]; simp_all; done))
    )
  termination_by x.2.2.2.length - j
  decreasing_by all_goals omega
theorem namesX_l0 (x : EExit) (v : Int) (i : Nat) (hs : x.2.2.1.length ≤ 1000000 ∧ x.2.2.2.length ≤ 1000000)  : Run Tryd.prog 25 (retQ Tryd.prog (.c (.bool (decide (v ∈ (x.2.2.1.drop i).map (fun s => s.2) ++ x.2.2.2.flatMap fun m => m.1 :: m.2.2.2))))) (lp (bodyOf Tryd.f25) 0) (.junk :: .c (.int .i64 v) :: .c (.ptr 0 0 0 0) :: J4 (J2 (.junk :: .c (.ro tVal x.2.2.1) :: .c (.int .i64 (x.2.2.1.length : Int)) :: .c (.int .i64 ((i : Nat) : Int)) :: J16 (J8 (J2 ([])))))) [.cells 27 (Ty.enc tExit x)] :=
  Run.roundA oc125 namesX_lv 3000 Tryd.func25 mixed (namesX_l0_R x v i) (namesX_l0_R_ok x v i) (by
    unfold namesX_l0_R
    refine g_iteD (fun h0 => ?_) (fun h0 => ?_)
    · refine g_need (by omega) ?_
      refine g_need (by omega) ?_
      refine g_iteD (fun h1 => ?_) (fun h1 => ?_)
      · exact g_retl (by first | (symm; rw [decide_eq_true_iff, List.mem_append, st_step (by omega)]; left; left; simp_all; done))
      · refine g_need (by first | omega | rfl | (constructor <;> omega) | (have q1 := hs.1; have q2 := hs.2; (rw [i64_iff]; omega)) | (simp; done)) ?_
        refine g_stop (RunN.keep [0] (false :: true :: true :: F4 (F2 (false :: true :: true :: true :: F16 (F8 (F2 ([])))))) n0 (by decide) rfl rfl ?_)
        have ht := namesX_l0 x v (i + 1) hs; have e : decide (v ∈ (x.2.2.1.drop i).map (fun s => s.2) ++ x.2.2.2.flatMap fun m => m.1 :: m.2.2.2) = decide (v ∈ (x.2.2.1.drop (i + 1)).map (fun s => s.2) ++ x.2.2.2.flatMap fun m => m.1 :: m.2.2.2) := (by rw [decide_eq_decide, List.mem_append, List.mem_append, st_step (by omega)]; simp_all); rw [e]; exact ht
    · refine g_stop (RunN.keep [] (false :: true :: F16 (F4 (true :: true :: true :: F8 (F4 (F2 ([])))))) n0 (by decide) rfl rfl ?_)
      have ht := namesX_l1 x v 0 hs; rw [List.drop_eq_nil_of_le (show x.2.2.1.length ≤ i by omega), List.map_nil, List.nil_append]; exact ht
    )
  termination_by x.2.2.1.length - i
  decreasing_by all_goals omega
theorem namesX_fun (x : EExit) (v : Int) (hs : x.2.2.1.length ≤ 1000000 ∧ x.2.2.2.length ≤ 1000000) : AFun Tryd.prog 25 [.agg (tExit.enc x), .c (.int .i64 v)] (.c (.bool (decide (v ∈ dvals x)))) :=
  AFun.of oc125 namesX_lv 3000 Tryd.func25 mixed rfl (by decide) (Nat.le_of_ble_eq_true rfl) _ (namesX_T_ok x v) fun hF => by
    unfold namesX_T
    refine g_stop (RunN.keep [0] (false :: true :: true :: F4 (F2 (false :: true :: true :: true :: F16 (F8 (F2 ([])))))) n0 (by decide) rfl rfl ?_)
    exact namesX_l0 x v 0 hs

end Go.Proofs.YtefkifdhjabdiaaDoor
namespace Go.Proofs.YtefkifdhjabdiaaDoor
set_option maxHeartbeats 4000000
set_option linter.unusedVariables false
set_option linter.unusedSimpArgs false
set_option maxRecDepth 100000
/-- Those that are kept. -/
structure CutKept (l : List EIns) (to : List Int) (loop : Int) (i : Nat) (lo : Int) (ins : List EIns) (ks : List Nat) : Prop where
  len : ks.length = ins.length
  spot : ∀ (j e : Nat), ks[j]? = some e → e < i ∧ to[e]? = some (e : Int) ∧ ∃ x y, l[e]? = some x ∧ ins[j]? = some y ∧ y.1 = x.1 ∧ y.2.2.2.2 = x.2.2.2.2
  inc : ∀ (j1 j2 e1 e2 : Nat), j1 < j2 → ks[j1]? = some e1 → ks[j2]? = some e2 → e1 < e2
  side : loop < (i : Int) → 0 ≤ loop → ∀ (j e : Nat), ks[j]? = some e → ((e : Int) < loop ↔ (j : Int) < lo)
  lole : loop < (i : Int) → 0 ≤ loop → lo ≤ (ins.length : Int)
theorem CutKept.skip {l : List EIns} {to : List Int} {loop : Int} {i : Nat} {lo : Int} {ins : List EIns} {ks : List Nat} (h : CutKept l to loop i lo ins ks) : CutKept l to loop (i + 1) (if (i : Int) = loop then (ins.length : Int) else lo) ins ks := by
  refine ⟨h.len, fun j e hj => ?_, h.inc, fun h1 h2 j e hj => ?_, fun h1 h2 => ?_⟩
  · obtain ⟨q1, q2⟩ := h.spot j e hj
    exact ⟨by omega, q2⟩
  · by_cases hi : (i : Int) = loop
    · rw [if_pos hi]
      obtain ⟨q1, _⟩ := h.spot j e hj
      have : j < ks.length := (List.getElem?_eq_some_iff.1 hj).1
      rw [h.len] at this
      constructor <;> intro <;> omega
    · rw [if_neg hi]
      exact h.side (by omega) h2 j e hj
  · by_cases hi : (i : Int) = loop
    · rw [if_pos hi]; exact Int.le_refl _
    · rw [if_neg hi]; exact h.lole (by omega) h2
theorem CutKept.keep {l : List EIns} {to : List Int} {loop : Int} {i : Nat} {lo : Int} {ins : List EIns} {ks : List Nat} (h : CutKept l to loop i lo ins ks) {x y : EIns} (hx : l[i]? = some x) (hto : to[i]? = some (i : Int)) (h1 : y.1 = x.1) (h2 : y.2.2.2.2 = x.2.2.2.2) : CutKept l to loop (i + 1) (if (i : Int) = loop then (ins.length : Int) else lo) (ins ++ [y]) (ks ++ [i]) := by
  have s := h.skip
  have cs : ∀ (j e : Nat), (ks ++ [i])[j]? = some e → ks[j]? = some e ∨ j = ks.length ∧ e = i := fun j e hj => by
    rcases Nat.lt_or_ge j ks.length with hl | hl
    · rw [List.getElem?_append_left hl] at hj; exact .inl hj
    · rw [List.getElem?_append_right hl] at hj
      have hj0 : j - ks.length = 0 := by
        have := (List.getElem?_eq_some_iff.1 hj).1
        simp at this
        omega
      rw [hj0] at hj
      simp at hj
      exact .inr ⟨by omega, hj.symm⟩
  refine ⟨by simp [h.len], fun j e hj => ?_, fun j1 j2 e1 e2 hlt hj1 hj2 => ?_, fun g1 g2 j e hj => ?_, fun g1 g2 => ?_⟩
  · rcases cs j e hj with hj | ⟨rfl, rfl⟩
    · obtain ⟨q1, q2, a, b, q3, q4, q5⟩ := h.spot j e hj
      exact ⟨by omega, q2, a, b, q3, by rw [List.getElem?_append_left (List.getElem?_eq_some_iff.1 q4).1]; exact q4, q5⟩
    · exact ⟨by omega, hto, x, y, hx, by rw [h.len]; simp, h1, h2⟩
  · rcases cs j1 e1 hj1 with q1 | q1
    · rcases cs j2 e2 hj2 with q2 | q2
      · exact h.inc j1 j2 e1 e2 hlt q1 q2
      · have := (h.spot j1 e1 q1).1
        omega
    · rcases cs j2 e2 hj2 with q2 | q2
      · have := (List.getElem?_eq_some_iff.1 q2).1
        omega
      · omega
  · rcases cs j e hj with hj | ⟨rfl, rfl⟩
    · exact s.side g1 g2 j e hj
    · have := s.lole g1 g2
      rw [h.len]
      constructor <;> intro <;> omega
  · have := s.lole g1 g2
    rw [List.length_append, List.length_singleton]
    omega
theorem cut_full {t : ETrace} {to : List Int} (h : (cutF t to).2 = 0) : to.length = t.2.2.2.1.length ∧ ∃ r, cutLoop t.2.2.1 0 t.2.2.2.1 to [] true 0 [] = some r ∧ (cutF t to).1 = (t.1, t.2.1, loopAt t r.2.2.1 r.2.2.2.length, r.2.2.2, t.2.2.2.2.1.map (cutExit r.1), cutExit r.1 t.2.2.2.2.2.1, cutExit r.1 t.2.2.2.2.2.2) := by
  unfold cutF at h ⊢
  split at h
  · rename_i hl
    refine ⟨hl, ?_⟩
    rw [if_pos hl]
    cases hr : cutLoop t.2.2.1 0 t.2.2.2.1 to [] true 0 [] with
    | none => rw [hr] at h; exact absurd (show (3 : Int) = 0 from h) (by decide)
    | some r =>
      refine ⟨r, rfl, ?_⟩
      rw [hr] at h
      unfold cutThen cutEnd endF at h ⊢
      simp only at h ⊢
      split at h
      · rename_i hc
        rw [if_pos hc]
        simp
      · exact absurd (show (3 : Int) = 0 from h) (by decide)
  · exact absurd (show (3 : Int) = 0 from h) (by decide)
/-! what the rounds leave -/
theorem markL_get : ∀ (l : List Int) (a : List Bool) (j : Nat), (markL l a).getD j (Ty.dflt .bool) = true → a.getD j (Ty.dflt .bool) = true ∨ ∃ v ∈ l, v.toNat = j
  | [], a, j, h => .inl h
  | v :: r, a, j, h => by
    unfold markL at h
    rcases markL_get r _ j h with h | ⟨u, hu, e⟩
    · rw [Nat.zero_add] at h
      by_cases e : v.toNat = j
      · exact .inr ⟨v, List.mem_cons_self .., e⟩
      · left
        rw [List.getD_eq_getElem?_getD, List.getElem?_set_ne e, ← List.getD_eq_getElem?_getD] at h
        exact h
    · exact .inr ⟨u, List.mem_cons_of_mem _ hu, e⟩
theorem markN_get (t : ETrace) (j : Nat) : ∀ i, (markN t i).getD j (Ty.dflt .bool) = true → ∃ k, k < i ∧ ∃ v ∈ dvals (dexit t k), v.toNat = j
  | 0, h => by
    unfold markN at h
    exfalso
    rw [List.getD_eq_getElem?_getD, List.getElem?_replicate] at h
    split at h <;> exact absurd h (by decide)
  | i + 1, h => by
    unfold markN at h
    rcases markL_get _ _ j h with h | h
    · obtain ⟨k, hk, hv⟩ := markN_get t j i h
      exact ⟨k, by omega, hv⟩
    · exact ⟨i, by omega, h⟩
/-- Who asks for a value of the trace. -/
def Asker (t : ETrace) (j : Nat) : Prop := (∃ v ∈ dvals t.2.2.2.2.2.1, v.toNat = j) ∨ (∃ v ∈ dvals t.2.2.2.2.2.2, v.toNat = j) ∨ ∃ k, k < t.2.2.2.2.1.length ∧ ∃ v ∈ dvals (dexit t k), v.toNat = j
theorem asked0_get {t : ETrace} {j : Nat} (h : (asked0 t).getD j (Ty.dflt .bool) = true) : Asker t j := by
  unfold asked0 at h
  rcases markL_get _ _ j h with h | h
  · rcases markL_get _ _ j h with h | h
    · exact .inr (.inr (markN_get t j _ h))
    · exact .inl h
  · exact .inr (.inl h)
def toF (t : ETrace) : List Int := (backSt t t.2.2.2.1.length).1
theorem getD_setI {l : List Int} {i j : Nat} {v : Int} (hi : i < l.length) : (l.set i v).getD j tI.dflt = if j = i then v else l.getD j tI.dflt := by
  simp only [List.getD_eq_getElem?_getD, List.getElem?_set]
  by_cases h : i = j
  · subst h; simp [hi]
  · simp [h, Ne.symm h]
/-- Which ones are kept, and who is asked for by then. -/
theorem back_inv (t : ETrace) : ∀ i, i ≤ t.2.2.2.1.length → (∀ j, j < t.2.2.2.1.length → t.2.2.2.1.length - i ≤ j → ((backSt t i).1.getD j tI.dflt = (j : Int) ∧ ∃ r, r < i ∧ keepB t j (backSt t r).2 = true) ∨ (backSt t i).1.getD j tI.dflt = -1) ∧
    ∀ j, (backSt t i).2.getD j (Ty.dflt .bool) = true → Asker t j ∨ ∃ k, t.2.2.2.1.length - i ≤ k ∧ k < t.2.2.2.1.length ∧ (backSt t i).1.getD k tI.dflt = (k : Int) ∧ ∃ v ∈ askF (t.2.2.2.1.getD k tIns.dflt), v.toNat = j
  | 0, _ => ⟨fun j hj h => by omega, fun j h => .inl (asked0_get h)⟩
  | i + 1, hi => by
    obtain ⟨h1, h2⟩ := back_inv t i (by omega)
    have hl := (backSt_len t i).1
    have e : backSt t (i + 1) = bstep t (t.2.2.2.1.length - 1 - i) (backSt t i) := rfl
    generalize hm : t.2.2.2.1.length - 1 - i = m at e
    cases hk : keepB t m (backSt t i).2 with
    | true =>
      have e2 : backSt t (i + 1) = (((backSt t i).1.set (0 + m) (-1)).set (0 + m) (m : Int), markL (askF (t.2.2.2.1.getD m tIns.dflt)) (backSt t i).2) := by rw [e]; exact if_pos hk
      rw [e2]
      rw [Nat.zero_add]
      have hg : ∀ j, (((backSt t i).1.set m (-1)).set m (m : Int)).getD j tI.dflt = if j = m then (m : Int) else (backSt t i).1.getD j tI.dflt := fun j => by
        rw [getD_setI (by rw [List.length_set]; omega)]
        split
        · rfl
        · rename_i hne; rw [getD_setI (by omega), if_neg hne]
      refine ⟨fun j hj hj2 => ?_, fun j h => ?_⟩
      · show ((((backSt t i).1.set m (-1)).set m (m : Int)).getD j tI.dflt = _ ∧ _) ∨ _
        rw [hg]
        by_cases ej : j = m
        · rw [if_pos ej]; left; exact ⟨by rw [ej], i, by omega, by rw [ej]; exact hk⟩
        · rw [if_neg ej]
          rcases h1 j hj (by omega) with ⟨q, r, hr, hq⟩ | q
          · exact .inl ⟨q, r, by omega, hq⟩
          · right; exact q
      · rcases markL_get _ _ j h with h | ⟨v, hv, ev⟩
        · rcases h2 j h with h | ⟨k, k1, k2, k3, k4⟩
          · exact .inl h
          · refine .inr ⟨k, by omega, k2, ?_, k4⟩
            show (((backSt t i).1.set m (-1)).set m (m : Int)).getD k tI.dflt = _
            rw [hg, if_neg (by omega)]; exact k3
        · refine .inr ⟨m, by omega, by omega, ?_, v, hv, ev⟩
          show (((backSt t i).1.set m (-1)).set m (m : Int)).getD m tI.dflt = _
          rw [hg, if_pos rfl]
    | false =>
      have e2 : backSt t (i + 1) = ((backSt t i).1.set (0 + m) (-1), (backSt t i).2) := by rw [e]; exact if_neg (by rw [hk]; decide)
      rw [e2]
      rw [Nat.zero_add]
      have hg : ∀ j, ((backSt t i).1.set m (-1)).getD j tI.dflt = if j = m then -1 else (backSt t i).1.getD j tI.dflt := fun j => getD_setI (by omega)
      refine ⟨fun j hj hj2 => ?_, fun j h => ?_⟩
      · show (((backSt t i).1.set m (-1)).getD j tI.dflt = _ ∧ _) ∨ _
        by_cases ej : j = m
        · right; show ((backSt t i).1.set m (-1)).getD j tI.dflt = -1; rw [hg, if_pos ej]
        · rcases h1 j hj (by omega) with ⟨q, r, hr, hq⟩ | q
          · left; exact ⟨by rw [hg, if_neg ej]; exact q, r, by omega, hq⟩
          · right; show ((backSt t i).1.set m (-1)).getD j tI.dflt = -1; rw [hg, if_neg ej]; exact q
      · rcases h2 j h with h | ⟨k, k1, k2, k3, k4⟩
        · exact .inl h
        · refine .inr ⟨k, by omega, k2, ?_, k4⟩
          show ((backSt t i).1.set m (-1)).getD k tI.dflt = _
          rw [hg, if_neg (by omega)]; exact k3
theorem markL_stays : ∀ (l : List Int) (a : List Bool) (j : Nat), a.getD j (Ty.dflt .bool) = true → (markL l a).getD j (Ty.dflt .bool) = true
  | [], a, j, h => h
  | v :: r, a, j, h => by
    unfold markL
    refine markL_stays r _ j ?_
    rw [Nat.zero_add]
    by_cases e : v.toNat = j
    · have hj : j < a.length := by
        rcases Nat.lt_or_ge j a.length with q | q
        · exact q
        · rw [List.getD_eq_getElem?_getD, List.getElem?_eq_none q] at h; exact absurd h (by decide)
      rw [List.getD_eq_getElem?_getD, e, List.getElem?_set_self hj]; rfl
    · rw [List.getD_eq_getElem?_getD, List.getElem?_set_ne e, ← List.getD_eq_getElem?_getD]; exact h
theorem mark_stays (t : ETrace) (s : Nat) {j : Nat} (h : (backSt t s).2.getD j (Ty.dflt .bool) = true) : (backSt t (s + 1)).2.getD j (Ty.dflt .bool) = true := by
  show (bstep t _ (backSt t s)).2.getD j _ = true
  unfold bstep
  split
  · exact markL_stays _ _ j h
  · exact h
/-- Whoever is kept may go wrong, tells nothing, is the first of a part ahead, or is asked for by one that is kept. -/
theorem dead_kept (t : ETrace) {j : Nat} (hj : j < t.2.2.2.1.length) : (toF t).getD j tI.dflt = -1 ∨ (toF t).getD j tI.dflt = (j : Int) ∧ (0 ≤ (t.2.2.2.1.getD j tIns.dflt).2.2.2.2.2.1 ∨ tellF (t.2.2.2.1.getD j tIns.dflt).1 = false ∨ (j = 0 ∧ 0 < t.2.2.1) ∨ Asker t j ∨ ∃ k, k < t.2.2.2.1.length ∧ (toF t).getD k tI.dflt = (k : Int) ∧ ∃ v ∈ askF (t.2.2.2.1.getD k tIns.dflt), v.toNat = j) := by
  obtain ⟨h1, _⟩ := back_inv t t.2.2.2.1.length (Nat.le_refl _)
  rcases h1 j hj (by omega) with ⟨q, r, hr, hq⟩ | q
  · right
    refine ⟨q, ?_⟩
    unfold keepB at hq
    rw [Nat.zero_add, Bool.or_eq_true, Bool.or_eq_true, Bool.or_eq_true] at hq
    rcases hq with ((hq | hq) | hq) | hq
    · right; right; right
      -- what is marked by then stays
      have key : ∀ s, r ≤ s → s ≤ t.2.2.2.1.length → (backSt t s).2.getD j (Ty.dflt .bool) = true := fun s hs hsn => by
        induction s with
        | zero => obtain rfl : r = 0 := by omega
                  exact hq
        | succ s ih =>
          by_cases e : r = s + 1
          · rw [← e]; exact hq
          · exact mark_stays t s (ih (by omega) (by omega))
      exact (back_inv t _ (Nat.le_refl _)).2 j (key _ (by omega) (Nat.le_refl _)) |>.imp_right fun ⟨k, _, k2, k3, k4⟩ => ⟨k, k2, k3, k4⟩
    · exact .inl (of_decide_eq_true hq)
    · right; left; simpa using hq
    · right; right; left
      rw [Bool.and_eq_true] at hq
      have := of_decide_eq_true hq.1
      exact ⟨by omega, of_decide_eq_true hq.2⟩
  · exact .inl q

/-! what is left of them -/
theorem ask_lt {p : EProg} {t : ETrace} (hc : CheckOk p t) {i : Nat} (hi : i < t.2.2.2.1.length) : ∀ v ∈ askF (t.2.2.2.1.getD i tIns.dflt), 0 ≤ v ∧ v < (i : Int) := by
  have ex : t.2.2.2.1[i]? = some (t.2.2.2.1.getD i tIns.dflt) := by rw [List.getD_eq_getElem?_getD, List.getElem?_eq_getElem hi]; rfl
  obtain ⟨h1, h2⟩ := hc.ins i _ ex
  unfold formedF at h2
  rw [Bool.and_eq_true] at h2
  intro v hv
  unfold askF at hv
  rw [if_pos h1] at hv
  obtain ⟨q0, q1, _⟩ := valueF_in (List.all_eq_true.1 h2.1 v hv)
  exact ⟨q0, q1⟩
/-- Where those that are kept stand. -/
structure CutPos (l : List EIns) (to : List Int) (i : Nat) (at_ : List Int) (ins : List EIns) (ks : List Nat) : Prop where
  len : ks.length = ins.length
  alen : at_.length = i
  pos : ∀ (j e : Nat), ks[j]? = some e → e < i ∧ at_[e]? = some (j : Int) ∧ ∃ x, l[e]? = some x ∧ ins[j]? = some (cutIns (at_.take (e + 1)) x)
  full : ∀ e : Nat, e < i → to[e]? = some (e : Int) → ∃ j : Nat, ks[j]? = some e
theorem CutPos.skip {l : List EIns} {to : List Int} {i : Nat} {at_ : List Int} {ins : List EIns} {ks : List Nat} (h : CutPos l to i at_ ins ks) {v : Int} (hto : to[i]? ≠ some (i : Int)) : CutPos l to (i + 1) (at_ ++ [v]) ins ks := by
  have ha := h.alen
  refine ⟨h.len, by simp [ha], fun j e hj => ?_, fun e he hq => ?_⟩
  · obtain ⟨q1, q2, x, q3, q4⟩ := h.pos j e hj
    exact ⟨by omega, by rw [List.getElem?_append_left (by omega)]; exact q2, x, q3, by rw [List.take_append_of_le_length (by omega)]; exact q4⟩
  · rcases Nat.lt_or_ge e i with hlt | hge
    · exact h.full e hlt hq
    · obtain rfl : e = i := by omega
      exact absurd hq hto
theorem CutPos.keep {l : List EIns} {to : List Int} {i : Nat} {at_ : List Int} {ins : List EIns} {ks : List Nat} (h : CutPos l to i at_ ins ks) {x : EIns} (hx : l[i]? = some x) : CutPos l to (i + 1) (at_ ++ [(ins.length : Int)]) (ins ++ [cutIns (at_ ++ [(ins.length : Int)]) x]) (ks ++ [i]) := by
  have ha := h.alen
  have hl := h.len
  have cs : ∀ (j e : Nat), (ks ++ [i])[j]? = some e → ks[j]? = some e ∨ j = ks.length ∧ e = i := fun j e hj => by
    rcases Nat.lt_or_ge j ks.length with hl | hl
    · rw [List.getElem?_append_left hl] at hj; exact .inl hj
    · rw [List.getElem?_append_right hl] at hj
      have hj0 : j - ks.length = 0 := by
        have := (List.getElem?_eq_some_iff.1 hj).1
        simp at this
        omega
      rw [hj0] at hj
      simp at hj
      exact .inr ⟨by omega, hj.symm⟩
  refine ⟨by simp [hl], by simp [ha], fun j e hj => ?_, fun e he hq => ?_⟩
  · rcases cs j e hj with hj | ⟨rfl, rfl⟩
    · obtain ⟨q1, q2, y, q3, q4⟩ := h.pos j e hj
      exact ⟨by omega, by rw [List.getElem?_append_left (by omega)]; exact q2, y, q3, by rw [List.take_append_of_le_length (by omega), List.getElem?_append_left (List.getElem?_eq_some_iff.1 q4).1]; exact q4⟩
    · refine ⟨by omega, ?_, x, hx, ?_⟩
      · rw [← ha, List.getElem?_append_right (Nat.le_refl _), Nat.sub_self, hl]; rfl
      · rw [List.take_of_length_le (by simp [ha]), hl, List.getElem?_append_right (Nat.le_refl _), Nat.sub_self]; rfl
  · rcases Nat.lt_or_ge e i with hlt | hge
    · obtain ⟨j, hj⟩ := h.full e hlt hq
      exact ⟨j, by rw [List.getElem?_append_left (List.getElem?_eq_some_iff.1 hj).1]; exact hj⟩
    · obtain rfl : e = i := by omega
      exact ⟨ks.length, by rw [List.getElem?_append_right (Nat.le_refl _), Nat.sub_self]; rfl⟩
theorem cutLoop_pos {loop : Int} {l : List EIns} {to : List Int} (hl : to.length = l.length) : ∀ (k i : Nat) (at_ : List Int) (f : Bool) (lo : Int) (ins : List EIns) (ks : List Nat) (r : List Int × Bool × Int × List EIns), l.length - i = k → i ≤ l.length → cutLoop loop i (l.drop i) (to.drop i) at_ f lo ins = some r → CutPos l to i at_ ins ks → CutKept l to loop i lo ins ks → ∃ ks', CutPos l to l.length r.1 r.2.2.2 ks' ∧ CutKept l to loop l.length r.2.2.1 r.2.2.2 ks'
  | 0, i, at_, f, lo, ins, ks, r, hk, hi, h, K, K2 => by
    obtain rfl : i = l.length := by omega
    rw [List.drop_eq_nil_of_le (Nat.le_refl _)] at h
    unfold cutLoop at h
    injection h with h
    rw [← h]
    exact ⟨ks, K, K2⟩
  | k + 1, i, at_, f, lo, ins, ks, r, hk, hi, h, K, K2 => by
    have hlt : i < l.length := by omega
    have hlt2 : i < to.length := by omega
    have ex : l[i]? = some (l.getD i tIns.dflt) := by rw [List.getD_eq_getElem?_getD, List.getElem?_eq_getElem hlt]; rfl
    have et : to[i]? = some (to.getD i tI.dflt) := by rw [List.getD_eq_getElem?_getD, List.getElem?_eq_getElem hlt2]; rfl
    rw [dropCons (α := EIns) (Ty.dflt tIns) hlt, dropCons (α := Int) (Ty.dflt tI) hlt2, cutLoop] at h
    split at h
    · rename_i hv
      exact cutLoop_pos hl k (i + 1) _ _ _ _ _ r (by omega) (by omega) h (K.keep ex) (K2.keep ex (by rw [et]; exact congrArg some hv) rfl rfl)
    · rename_i hv
      have hne : to[i]? ≠ some (i : Int) := fun q => hv (Option.some.inj (et.symm.trans q))
      split at h
      · exact cutLoop_pos hl k (i + 1) _ _ _ _ _ r (by omega) (by omega) h (K.skip hne) K2.skip
      · split at h
        · split at h
          · exact cutLoop_pos hl k (i + 1) _ _ _ _ _ r (by omega) (by omega) h (K.skip hne) K2.skip
          · cases h
        · cases h
theorem cutOne_at {at_ : List Int} {v j : Int} {e : Nat} (h0 : 0 ≤ v) (he : v.toNat = e) (h : at_[e]? = some j) (hj : 0 ≤ j) : (cutOne at_ v).1 = j := by
  have hlt := (List.getElem?_eq_some_iff.1 h).1
  have hg : at_.getD v.toNat tI.dflt = j := by rw [he, List.getD_eq_getElem?_getD, h]; rfl
  unfold cutOne
  rw [if_neg (by omega), if_neg (by omega), hg, if_neg (by omega)]
theorem dvals_cut (at_ : List Int) (x : EExit) : dvals (cutExit at_ x) = (dvals x).map fun v => (cutOne at_ v).1 := by
  unfold dvals cutExit
  rw [List.map_append, List.map_map, List.map_map, List.map_flatMap, List.flatMap_map]
  rfl
theorem askF_cut {at_ : List Int} {x : EIns} {v : Int} (h : v ∈ askF x) : (cutOne at_ v).1 ∈ askF (cutIns at_ x) := by
  obtain ⟨b0, b3⟩ := ofF_asks x.1
  unfold askF at h ⊢
  have e : (cutIns at_ x).1 = x.1 := rfl
  rw [e]
  by_cases ho : (ofF x.1).2 = true
  · rw [if_pos ho] at h ⊢
    have ec : cutAsks x.1 = (ofF x.1).1.1 := by unfold cutAsks; rw [if_pos ho]
    have e1 : (cutIns at_ x).2.1 = stepV at_ (ofF x.1).1.1 0 x.2.1 := by rw [← ec]; rfl
    have e2 : (cutIns at_ x).2.2.1 = stepV at_ (ofF x.1).1.1 1 x.2.2.1 := by rw [← ec]; rfl
    have e3 : (cutIns at_ x).2.2.2.1 = stepV at_ (ofF x.1).1.1 2 x.2.2.2.1 := by rw [← ec]; rfl
    rw [e1, e2, e3]
    generalize (ofF x.1).1.1 = n at *
    unfold stepV
    have hn : n = 0 ∨ n = 1 ∨ n = 2 ∨ n = 3 := by omega
    rcases hn with rfl | rfl | rfl | rfl
    · simp at h
    · simp at h; simp [h]
    · simp at h
      rcases h with h | h <;> simp [h]
    · simp at h
      rcases h with h | h | h <;> simp [h]
  · rw [if_neg ho] at h; cases h
/-- Who asks for a value, behind it. -/
def AskedOut (out : ETrace) (i : Nat) : Prop := (i : Int) ∈ dvals out.2.2.2.2.2.1 ∨ (i : Int) ∈ dvals out.2.2.2.2.2.2 ∨ (∃ k, k < out.2.2.2.2.1.length ∧ (i : Int) ∈ dvals (out.2.2.2.2.1.getD k tExit.dflt)) ∨ ∃ k, i < k ∧ k < out.2.2.2.1.length ∧ (i : Int) ∈ askF (out.2.2.2.1.getD k tIns.dflt)
theorem getD_of {α : Type} {l : List α} {i : Nat} {x d : α} (h : l[i]? = some x) : l.getD i d = x := by rw [List.getD_eq_getElem?_getD, h]; rfl
theorem dexit_in {p : EProg} {t : ETrace} (hc : CheckOk p t) {k : Nat} (hk : k < t.2.2.2.2.1.length) : ∀ v ∈ dvals (dexit t k), 0 ≤ v := by
  unfold dexit
  split
  · exact fun v hv => ((exit_sm hc hk).2 v hv).1
  · intro v hv; simp [dvals, bareX] at hv
theorem dead_law {p : EProg} {t : ETrace} (h : (deadDo p t).2 = 0) : ∀ i, i < (deadDo p t).1.2.2.2.1.length → ¬ 0 ≤ ((deadDo p t).1.2.2.2.1.getD i tIns.dflt).2.2.2.2.2.1 → tellF ((deadDo p t).1.2.2.2.1.getD i tIns.dflt).1 = true → ¬ (i = 0 ∧ 0 < (deadDo p t).1.2.2.1) → AskedOut (deadDo p t).1 i := by
  by_cases h0 : checkF p t = 0
  · have hc := check_iff.1 h0
    have e : deadDo p t = cutF (deadT t) (toF t) := if_pos h0
    rw [e] at h ⊢
    obtain ⟨hlen, r, hr, hout⟩ := cut_full h
    obtain ⟨ks, K, K2⟩ := cutLoop_pos (loop := t.2.2.1) (l := t.2.2.2.1) (to := toF t) hlen _ 0 [] true 0 [] [] r rfl (Nat.zero_le _) (show cutLoop t.2.2.1 0 (t.2.2.2.1.drop 0) ((toF t).drop 0) [] true 0 [] = some r from hr) ⟨rfl, rfl, fun j e h => by simp at h, fun e he => by omega⟩ ⟨rfl, fun j e h => by simp at h, fun _ _ _ _ _ h => by simp at h, fun _ _ j e h => by simp at h, fun _ _ => Int.le_refl _⟩
    rw [hout]
    intro i hi hex htl h00
    have hi : i < r.2.2.2.length := hi
    obtain ⟨e0, he0⟩ : ∃ e, ks[i]? = some e := ⟨_, List.getElem?_eq_getElem (by rw [K.len]; exact hi)⟩
    obtain ⟨q1, q2, x, q3, q4⟩ := K.pos i e0 he0
    obtain ⟨_, q5, _⟩ := K2.spot i e0 he0
    have hy : r.2.2.2.getD i tIns.dflt = cutIns (r.1.take (e0 + 1)) x := getD_of q4
    have hx : t.2.2.2.1.getD e0 tIns.dflt = x := getD_of q3
    have hto : (toF t).getD e0 tI.dflt = (e0 : Int) := getD_of q5
    -- a value that was asked for is asked for at its new place
    have mv : ∀ v : Int, 0 ≤ v → v.toNat = e0 → (cutOne r.1 v).1 = (i : Int) := fun v h0 hv => cutOne_at h0 hv q2 (Int.natCast_nonneg i)
    have mx : ∀ y : EExit, (∀ v ∈ dvals y, 0 ≤ v) → (∃ v ∈ dvals y, v.toNat = e0) → (i : Int) ∈ dvals (cutExit r.1 y) := fun y hp ⟨v, hv, ev⟩ => by
      rw [dvals_cut, List.mem_map]
      exact ⟨v, hv, mv v (hp v hv) ev⟩
    rcases dead_kept t q1 with hq | ⟨_, hq⟩
    · rw [hto] at hq; omega
    · rw [hx] at hq
      have hex : ¬ 0 ≤ x.2.2.2.2.2.1 := fun q => hex (show 0 ≤ (r.2.2.2.getD i tIns.dflt).2.2.2.2.2.1 by rw [hy]; exact q)
      have htl : tellF x.1 = true := by
        have htl : tellF (r.2.2.2.getD i tIns.dflt).1 = true := htl
        rw [hy] at htl; exact htl
      rcases hq with hq | hq | ⟨hz, hlp⟩ | hq | ⟨k, hk, hkk, v, hv, ev⟩
      · exact absurd hq hex
      · rw [htl] at hq; cases hq
      · exfalso
        apply h00
        subst hz
        have iz : i = 0 := by
          rcases Nat.eq_zero_or_pos i with q | q
          · exact q
          · exfalso
            obtain ⟨e1, he1⟩ : ∃ e, ks[0]? = some e := ⟨_, List.getElem?_eq_getElem (by rw [K.len]; omega)⟩
            have := K2.inc 0 i e1 0 q he1 he0
            omega
        refine ⟨iz, ?_⟩
        show 0 < loopAt (deadT t) r.2.2.1 r.2.2.2.length
        unfold loopAt
        have hlp' : 0 < (deadT t).2.2.1 := hlp
        rw [if_neg (by omega)]
        by_cases h2 : ((deadT t).2.2.2.1.length : Int) ≤ (deadT t).2.2.1
        · rw [if_pos h2]; omega
        · rw [if_neg h2]
          have := (K2.side (by have h2 : ¬ (t.2.2.2.1.length : Int) ≤ t.2.2.1 := h2; omega) (by omega) i 0 he0).1 (by omega)
          omega
      · rcases hq with hq | hq | ⟨k, hk, hq⟩
        · exact .inl (mx _ (fun v hv => (turn_in hc v hv).1) hq)
        · exact .inr (.inl (mx _ (fun v hv => (dvals_in hc.back.2 v hv).1) hq))
        · refine .inr (.inr (.inl ⟨k, ?_, ?_⟩))
          · show k < ((dexitsF t).map (cutExit r.1)).length
            simp [dexitsF]; exact hk
          · show (i : Int) ∈ dvals (((dexitsF t).map (cutExit r.1)).getD k tExit.dflt)
            rw [getD_of (show ((dexitsF t).map (cutExit r.1))[k]? = some (cutExit r.1 (dexit t k)) by rw [List.getElem?_map, dexitsF, List.getElem?_map, List.getElem?_range hk]; rfl)]
            exact mx _ (dexit_in hc hk) hq
      · -- one that is kept
        have hkl : k < (toF t).length := by rw [hlen]; exact hk
        obtain ⟨j, hj⟩ := K.full k hk (by rw [List.getElem?_eq_getElem hkl]; rw [List.getD_eq_getElem?_getD, List.getElem?_eq_getElem hkl] at hkk; exact congrArg some hkk)
        obtain ⟨p1, p2, z, p3, p4⟩ := K.pos j k hj
        have hz : t.2.2.2.1.getD k tIns.dflt = z := getD_of p3
        obtain ⟨v0, v1⟩ := ask_lt hc hk v hv
        rw [hz] at hv
        have hjl : j < r.2.2.2.length := (List.getElem?_eq_some_iff.1 p4).1
        refine .inr (.inr (.inr ⟨j, ?_, hjl, ?_⟩))
        · rcases Nat.lt_trichotomy i j with q | q | q
          · exact q
          · subst q
            have := Option.some.inj (he0.symm.trans hj)
            omega
          · have := K2.inc j i k e0 q hj he0
            omega
        · show (i : Int) ∈ askF (r.2.2.2.getD j tIns.dflt)
          rw [getD_of p4]
          have := askF_cut (at_ := r.1.take (k + 1)) hv
          rw [cutOne_at v0 ev (show (r.1.take (k + 1))[e0]? = some (i : Int) by rw [List.getElem?_take_of_lt (by omega)]; exact q2) (Int.natCast_nonneg i)] at this
          exact this
  · exfalso
    have e : deadDo p t = (noT, checkF p t) := if_neg h0
    rw [e] at h
    exact h0 h
end Go.Proofs.YtefkifdhjabdiaaDoor
namespace Go.Proofs.YtefkifdhjabdiaaDoor
set_option maxHeartbeats 4000000
set_option linter.unusedVariables false
set_option linter.unusedSimpArgs false
set_option maxRecDepth 100000
def exSm (x : EExit) : Prop := x.2.2.1.length ≤ 1000000 ∧ x.2.2.2.length ≤ 1000000
theorem exSm_cut {at_ : List Int} {x : EExit} (h : exitSm x) : exSm (cutExit at_ x) := ⟨by unfold cutExit; rw [List.length_map]; exact h.1, by unfold cutExit; rw [List.length_map]; exact h.2.1⟩
theorem dead_small {p : EProg} {t : ETrace} (h : (deadDo p t).2 = 0) : (deadDo p t).1.2.2.2.1.length ≤ 1000000 ∧ (deadDo p t).1.2.2.2.2.1.length ≤ 1000000 ∧ (∀ k, k < (deadDo p t).1.2.2.2.2.1.length → exSm ((deadDo p t).1.2.2.2.2.1.getD k tExit.dflt)) ∧ exSm (deadDo p t).1.2.2.2.2.2.1 ∧ exSm (deadDo p t).1.2.2.2.2.2.2 := by
  by_cases h0 : checkF p t = 0
  · have hc := check_iff.1 h0
    have e : deadDo p t = cutF (deadT t) (toF t) := if_pos h0
    rw [e] at h ⊢
    have hsm := dead_sm hc
    have hin : (cutF (deadT t) (toF t)).1.2.2.2.1.length ≤ 1000000 := by
      rcases cut_any (deadT t) (toF t) with ⟨_, q⟩ | ⟨q, _⟩
      · exact Nat.le_trans q hsm.1
      · rw [h] at q; exact absurd q (by decide)
    refine ⟨hin, ?_⟩
    obtain ⟨_, r, _, hout⟩ := cut_full h
    rw [hout]
    refine ⟨by rw [List.length_map]; exact hsm.2.1.1, fun k hk => ?_, exSm_cut hsm.2.2.1, exSm_cut hsm.2.2.2⟩
    have hk' : k < (deadT t).2.2.2.2.1.length := by rw [List.length_map] at hk; exact hk
    rw [getD_of (show ((deadT t).2.2.2.2.1.map (cutExit r.1))[k]? = some (cutExit r.1 ((deadT t).2.2.2.2.1[k])) by rw [List.getElem?_map, List.getElem?_eq_getElem hk']; rfl)]
    exact exSm_cut (hsm.2.1.2 _ (List.getElem_mem hk'))
  · exfalso
    have e : deadDo p t = (noT, checkF p t) := if_neg h0
    rw [e] at h
    exact h0 h
noncomputable def oc126 : Orc where
  pure := fun f args => match f, args with
    | 15, [] => some (.c (.bool (true)))
    | 18, [a0] => match dA tIns a0 with
      | some x0 => some (.c (.ro tI (askF x0)))
      | _ => none
    | 19, [a0] => match dA tI a0 with
      | some x0 => some (.c (.bool (tellF x0)))
      | _ => none
    | 24, [a0, a1] => match dA tProg a0, dA tTrace a1 with
      | some x0, some x1 => some (.tup [.agg (Ty.enc tTrace ((deadDo x0 x1).1)), .c (.int .i64 ((deadDo x0 x1).2))])
      | _, _ => none
    | 25, [a0, a1] => match dA tExit a0, dA tI a1 with
      | some x0, some x1 => some (.c (.bool (decide (x1 ∈ dvals x0))))
      | _, _ => none
    | 26, [a0, a1] => match dA (.slice tI) a0, dA tI a1 with
      | some x0, some x1 => some (.c (.bool (decide (x1 ∈ x0))))
      | _, _ => none
    | _, _ => none
  heap := fun _ _ _ => none
def deadNone_lv : LV := ⟨(F4 (false :: true :: false :: true :: true :: false :: true :: F8 (F2 (false :: true :: true :: F32 (F8 (true :: true :: F32 (F4 (false :: [])))))))), []⟩
noncomputable def deadNone_T (p : EProg) (t : ETrace) : Tree :=
  .call 24 [.agg (Ty.enc tProg p), .agg (Ty.enc tTrace t)] false (.tup [.agg (Ty.enc tTrace (deadDo p t).1), .c (.int .i64 (deadDo p t).2)]) <|
  .ite ((!(decide ((deadDo p t).2 = 0))))
  (.call 15 [] false (.c (.bool true)) <|
   .ret (.c (.bool true)) [.cells 39 (Ty.enc tProg p), .cells 29 (Ty.enc tTrace t), .cells 29 (Ty.enc tTrace (deadDo p t).1)])
  (.stop (lp (bodyOf Tryd.f8) 0) (J4 (.junk :: .c (.ptr 2 0 0 0) :: J16 (.c (.int .i64 ((deadDo p t).1.2.2.2.1.length : Int)) :: .c (.int .i64 0) :: J32 (J32 (J8 (J4 (J2 (.junk :: [])))))))) [.cells 39 (Ty.enc tProg p), .cells 29 (Ty.enc tTrace t), .cells 29 (Ty.enc tTrace (deadDo p t).1)])
theorem deadNone_T_ok (p : EProg) (t : ETrace) : aRun Tryd.prog oc126 Tryd.f8 deadNone_lv 3000 [.code (bodyOf Tryd.f8)] ([.agg (tProg.enc p), .agg (tTrace.enc t)] ++ List.replicate (Func.ntmps Tryd.f8 - 2) .junk) [] = deadNone_T p t := by kernel_rfl
noncomputable def deadNone_l2_R (p : EProg) (t : ETrace) (i : Nat) (f : Bool) (k : Nat) : Tree :=
  .ite (decide (((k : Nat) : Int) < ((deadDo p t).1.2.2.2.1.length : Int)))
  (.ite (f)
   (.need (inR .i64 (((k : Nat) : Int) + 1)) <|
    .stop (lp (bodyOf Tryd.f8) 2) (J4 (.junk :: .c (.ptr 0 0 0 0) :: .junk :: .c (.int .i64 ((i : Nat) : Int)) :: .c (.lit true) :: .junk :: .c (.int .i64 (((k : Nat) : Int) + 1)) :: J8 (J2 (.junk :: .c (.int .i64 ((deadDo p t).1.2.2.2.1.length : Int)) :: .c (.int .i64 ((i : Nat) : Int)) :: J32 (J32 (J8 (J4 (J2 (.junk :: []))))))))) [.cells 29 (Ty.enc tTrace (deadDo p t).1)])
   (.need ((0 : Int) ≤ ((k : Nat) : Int) ∧ (((k : Nat) : Int) : Int) < ((deadDo p t).1.2.2.2.1.length : Int)) <|
    .need (k < (deadDo p t).1.2.2.2.1.length) <|
    .call 18 [.agg [.int .i64 ((deadDo p t).1.2.2.2.1.getD k tIns.dflt).1, .int .i64 ((deadDo p t).1.2.2.2.1.getD k tIns.dflt).2.1, .int .i64 ((deadDo p t).1.2.2.2.1.getD k tIns.dflt).2.2.1, .int .i64 ((deadDo p t).1.2.2.2.1.getD k tIns.dflt).2.2.2.1, .int .i64 ((deadDo p t).1.2.2.2.1.getD k tIns.dflt).2.2.2.2.1, .int .i64 ((deadDo p t).1.2.2.2.1.getD k tIns.dflt).2.2.2.2.2.1, .int .i64 ((deadDo p t).1.2.2.2.1.getD k tIns.dflt).2.2.2.2.2.2.1, .int .i64 ((deadDo p t).1.2.2.2.1.getD k tIns.dflt).2.2.2.2.2.2.2]] false (.c (.ro tI (askF ((deadDo p t).1.2.2.2.1.getD k tIns.dflt)))) <|
    .call 26 [.c (.ro tI (askF ((deadDo p t).1.2.2.2.1.getD k tIns.dflt))), .c (.int .i64 ((i : Nat) : Int))] false (.c (.bool (decide (((i : Nat) : Int) ∈ (askF ((deadDo p t).1.2.2.2.1.getD k tIns.dflt)))))) <|
    .need (inR .i64 (((k : Nat) : Int) + 1)) <|
    .stop (lp (bodyOf Tryd.f8) 2) (J4 (.junk :: .c (.ptr 0 0 0 0) :: .junk :: .c (.int .i64 ((i : Nat) : Int)) :: .c (.bool (decide (((i : Nat) : Int) ∈ (askF ((deadDo p t).1.2.2.2.1.getD k tIns.dflt))))) :: .junk :: .c (.int .i64 (((k : Nat) : Int) + 1)) :: J8 (J2 (.junk :: .c (.int .i64 ((deadDo p t).1.2.2.2.1.length : Int)) :: .c (.int .i64 ((i : Nat) : Int)) :: J32 (J32 (J8 (J4 (J2 (.junk :: []))))))))) [.cells 29 (Ty.enc tTrace (deadDo p t).1)]))
  (.ite ((!f))
   (.ret (.c (.lit false)) [.cells 29 (Ty.enc tTrace (deadDo p t).1)])
   (.need (inR .i64 (((i : Nat) : Int) + 1)) <|
    .stop (lp (bodyOf Tryd.f8) 0) (J4 (.junk :: .c (.ptr 0 0 0 0) :: .junk :: .c (.int .i64 ((i : Nat) : Int)) :: .c (.bool f) :: .junk :: .c (.int .i64 ((k : Nat) : Int)) :: J8 (J2 (.junk :: .c (.int .i64 ((deadDo p t).1.2.2.2.1.length : Int)) :: .c (.int .i64 (((i : Nat) : Int) + 1)) :: J32 (J32 (J8 (J4 (J2 (.junk :: []))))))))) [.cells 29 (Ty.enc tTrace (deadDo p t).1)]))
theorem deadNone_l2_R_ok (p : EProg) (t : ETrace) (i : Nat) (f : Bool) (k : Nat) : aRound Tryd.prog oc126 Tryd.f8 deadNone_lv 3000 (lp (bodyOf Tryd.f8) 2) (J4 (.junk :: .c (.ptr 0 0 0 0) :: .junk :: .c (.int .i64 ((i : Nat) : Int)) :: .c (.bool f) :: .junk :: .c (.int .i64 ((k : Nat) : Int)) :: J8 (J2 (.junk :: .c (.int .i64 ((deadDo p t).1.2.2.2.1.length : Int)) :: .c (.int .i64 ((i : Nat) : Int)) :: J32 (J32 (J8 (J4 (J2 (.junk :: []))))))))) [.cells 29 (Ty.enc tTrace (deadDo p t).1)] = deadNone_l2_R p t i f k := by kernel_rfl
noncomputable def deadNone_l1_R (p : EProg) (t : ETrace) (i : Nat) (f : Bool) (k : Nat) : Tree :=
  .ite (decide (((k : Nat) : Int) < ((deadDo p t).1.2.2.2.2.1.length : Int)))
  (.ite (f)
   (.need (inR .i64 (((k : Nat) : Int) + 1)) <|
    .stop (lp (bodyOf Tryd.f8) 1) (J4 (.junk :: .c (.ptr 0 0 0 0) :: .junk :: .c (.int .i64 ((i : Nat) : Int)) :: .c (.lit true) :: J8 (J4 (.junk :: .c (.int .i64 ((deadDo p t).1.2.2.2.1.length : Int)) :: .c (.int .i64 ((i : Nat) : Int)) :: J32 (J8 (.c (.int .i64 ((deadDo p t).1.2.2.2.2.1.length : Int)) :: .c (.int .i64 (((k : Nat) : Int) + 1)) :: J32 (J4 (.junk :: [])))))))) [.cells 29 (Ty.enc tTrace (deadDo p t).1)])
   (.need ((0 : Int) ≤ ((k : Nat) : Int) ∧ (((k : Nat) : Int) : Int) < ((deadDo p t).1.2.2.2.2.1.length : Int)) <|
    .need (k < (deadDo p t).1.2.2.2.2.1.length) <|
    .call 25 [.agg [.int .i64 ((deadDo p t).1.2.2.2.2.1.getD k tExit.dflt).1, .int .i64 ((deadDo p t).1.2.2.2.2.1.getD k tExit.dflt).2.1, .ro tVal ((deadDo p t).1.2.2.2.2.1.getD k tExit.dflt).2.2.1, .ro tMake ((deadDo p t).1.2.2.2.2.1.getD k tExit.dflt).2.2.2], .c (.int .i64 ((i : Nat) : Int))] false (.c (.bool (decide (((i : Nat) : Int) ∈ dvals ((deadDo p t).1.2.2.2.2.1.getD k tExit.dflt))))) <|
    .need (inR .i64 (((k : Nat) : Int) + 1)) <|
    .stop (lp (bodyOf Tryd.f8) 1) (J4 (.junk :: .c (.ptr 0 0 0 0) :: .junk :: .c (.int .i64 ((i : Nat) : Int)) :: .c (.bool (decide (((i : Nat) : Int) ∈ dvals ((deadDo p t).1.2.2.2.2.1.getD k tExit.dflt)))) :: J8 (J4 (.junk :: .c (.int .i64 ((deadDo p t).1.2.2.2.1.length : Int)) :: .c (.int .i64 ((i : Nat) : Int)) :: J32 (J8 (.c (.int .i64 ((deadDo p t).1.2.2.2.2.1.length : Int)) :: .c (.int .i64 (((k : Nat) : Int) + 1)) :: J32 (J4 (.junk :: [])))))))) [.cells 29 (Ty.enc tTrace (deadDo p t).1)]))
  (.need (inR .i64 (((i : Nat) : Int) + 1)) <|
   .stop (lp (bodyOf Tryd.f8) 2) (J4 (.junk :: .c (.ptr 0 0 0 0) :: .junk :: .c (.int .i64 ((i : Nat) : Int)) :: .c (.bool f) :: .junk :: .c (.int .i64 (((i : Nat) : Int) + 1)) :: J8 (J2 (.junk :: .c (.int .i64 ((deadDo p t).1.2.2.2.1.length : Int)) :: .c (.int .i64 ((i : Nat) : Int)) :: J32 (J8 (.c (.int .i64 ((deadDo p t).1.2.2.2.2.1.length : Int)) :: .c (.int .i64 ((k : Nat) : Int)) :: J32 (J4 (.junk :: [])))))))) [.cells 29 (Ty.enc tTrace (deadDo p t).1)])
theorem deadNone_l1_R_ok (p : EProg) (t : ETrace) (i : Nat) (f : Bool) (k : Nat) : aRound Tryd.prog oc126 Tryd.f8 deadNone_lv 3000 (lp (bodyOf Tryd.f8) 1) (J4 (.junk :: .c (.ptr 0 0 0 0) :: .junk :: .c (.int .i64 ((i : Nat) : Int)) :: .c (.bool f) :: J8 (J4 (.junk :: .c (.int .i64 ((deadDo p t).1.2.2.2.1.length : Int)) :: .c (.int .i64 ((i : Nat) : Int)) :: J32 (J8 (.c (.int .i64 ((deadDo p t).1.2.2.2.2.1.length : Int)) :: .c (.int .i64 ((k : Nat) : Int)) :: J32 (J4 (.junk :: [])))))))) [.cells 29 (Ty.enc tTrace (deadDo p t).1)] = deadNone_l1_R p t i f k := by kernel_rfl
noncomputable def deadNone_l0_R (p : EProg) (t : ETrace) (i : Nat) : Tree :=
  .ite (decide (((i : Nat) : Int) < ((deadDo p t).1.2.2.2.1.length : Int)))
  (.need ((0 : Int) ≤ ((i : Nat) : Int) ∧ (((i : Nat) : Int) : Int) < ((deadDo p t).1.2.2.2.1.length : Int)) <|
   .need (i < (deadDo p t).1.2.2.2.1.length) <|
   .ite (decide ((0 : Int) ≤ ((deadDo p t).1.2.2.2.1.getD i tIns.dflt).2.2.2.2.2.1))
   (.need (inR .i64 (((i : Nat) : Int) + 1)) <|
    .stop (lp (bodyOf Tryd.f8) 0) (J4 (.junk :: .c (.ptr 0 0 0 0) :: .junk :: .c (.int .i64 ((i : Nat) : Int)) :: J8 (J4 (J2 (.c (.int .i64 ((deadDo p t).1.2.2.2.1.length : Int)) :: .c (.int .i64 (((i : Nat) : Int) + 1)) :: J32 (J32 (J8 (J4 (J2 (.junk :: [])))))))))) [.cells 29 (Ty.enc tTrace (deadDo p t).1)])
   (.need ((0 : Int) ≤ ((i : Nat) : Int) ∧ (((i : Nat) : Int) : Int) < ((deadDo p t).1.2.2.2.1.length : Int)) <|
    .need (i < (deadDo p t).1.2.2.2.1.length) <|
    .call 19 [.c (.int .i64 ((deadDo p t).1.2.2.2.1.getD i tIns.dflt).1)] false (.c (.bool (tellF ((deadDo p t).1.2.2.2.1.getD i tIns.dflt).1))) <|
    .ite ((!(tellF ((deadDo p t).1.2.2.2.1.getD i tIns.dflt).1)))
    (.need (inR .i64 (((i : Nat) : Int) + 1)) <|
     .stop (lp (bodyOf Tryd.f8) 0) (J4 (.junk :: .c (.ptr 0 0 0 0) :: .junk :: .c (.int .i64 ((i : Nat) : Int)) :: J8 (J4 (J2 (.c (.int .i64 ((deadDo p t).1.2.2.2.1.length : Int)) :: .c (.int .i64 (((i : Nat) : Int) + 1)) :: J32 (J32 (J8 (J4 (J2 (.junk :: [])))))))))) [.cells 29 (Ty.enc tTrace (deadDo p t).1)])
    (.ite (decide (((i : Nat) : Int) = 0))
     (.ite (decide ((0 : Int) < (deadDo p t).1.2.2.1))
      (.need (inR .i64 (((i : Nat) : Int) + 1)) <|
       .stop (lp (bodyOf Tryd.f8) 0) (J4 (.junk :: .c (.ptr 0 0 0 0) :: .junk :: .c (.int .i64 ((i : Nat) : Int)) :: J8 (J4 (J2 (.c (.int .i64 ((deadDo p t).1.2.2.2.1.length : Int)) :: .c (.int .i64 (((i : Nat) : Int) + 1)) :: J32 (J32 (J8 (J4 (J2 (.junk :: [])))))))))) [.cells 29 (Ty.enc tTrace (deadDo p t).1)])
      (.call 25 [.agg [.int .i64 (deadDo p t).1.2.2.2.2.2.1.1, .int .i64 (deadDo p t).1.2.2.2.2.2.1.2.1, .ro tVal (deadDo p t).1.2.2.2.2.2.1.2.2.1, .ro tMake (deadDo p t).1.2.2.2.2.2.1.2.2.2], .c (.int .i64 ((i : Nat) : Int))] false (.c (.bool (decide (((i : Nat) : Int) ∈ dvals (deadDo p t).1.2.2.2.2.2.1)))) <|
       .ite (decide (((i : Nat) : Int) ∈ dvals (deadDo p t).1.2.2.2.2.2.1))
       (.stop (lp (bodyOf Tryd.f8) 1) (J4 (.junk :: .c (.ptr 0 0 0 0) :: .junk :: .c (.int .i64 ((i : Nat) : Int)) :: .c (.lit true) :: J8 (J4 (.junk :: .c (.int .i64 ((deadDo p t).1.2.2.2.1.length : Int)) :: .c (.int .i64 ((i : Nat) : Int)) :: J32 (J8 (.c (.int .i64 ((deadDo p t).1.2.2.2.2.1.length : Int)) :: .c (.int .i64 0) :: J32 (J4 (.junk :: [])))))))) [.cells 29 (Ty.enc tTrace (deadDo p t).1)])
       (.call 25 [.agg [.int .i64 (deadDo p t).1.2.2.2.2.2.2.1, .int .i64 (deadDo p t).1.2.2.2.2.2.2.2.1, .ro tVal (deadDo p t).1.2.2.2.2.2.2.2.2.1, .ro tMake (deadDo p t).1.2.2.2.2.2.2.2.2.2], .c (.int .i64 ((i : Nat) : Int))] false (.c (.bool (decide (((i : Nat) : Int) ∈ dvals (deadDo p t).1.2.2.2.2.2.2)))) <|
        .stop (lp (bodyOf Tryd.f8) 1) (J4 (.junk :: .c (.ptr 0 0 0 0) :: .junk :: .c (.int .i64 ((i : Nat) : Int)) :: .c (.bool (decide (((i : Nat) : Int) ∈ dvals (deadDo p t).1.2.2.2.2.2.2))) :: J8 (J4 (.junk :: .c (.int .i64 ((deadDo p t).1.2.2.2.1.length : Int)) :: .c (.int .i64 ((i : Nat) : Int)) :: J32 (J8 (.c (.int .i64 ((deadDo p t).1.2.2.2.2.1.length : Int)) :: .c (.int .i64 0) :: J32 (J4 (.junk :: [])))))))) [.cells 29 (Ty.enc tTrace (deadDo p t).1)])))
     (.call 25 [.agg [.int .i64 (deadDo p t).1.2.2.2.2.2.1.1, .int .i64 (deadDo p t).1.2.2.2.2.2.1.2.1, .ro tVal (deadDo p t).1.2.2.2.2.2.1.2.2.1, .ro tMake (deadDo p t).1.2.2.2.2.2.1.2.2.2], .c (.int .i64 ((i : Nat) : Int))] false (.c (.bool (decide (((i : Nat) : Int) ∈ dvals (deadDo p t).1.2.2.2.2.2.1)))) <|
      .ite (decide (((i : Nat) : Int) ∈ dvals (deadDo p t).1.2.2.2.2.2.1))
      (.stop (lp (bodyOf Tryd.f8) 1) (J4 (.junk :: .c (.ptr 0 0 0 0) :: .junk :: .c (.int .i64 ((i : Nat) : Int)) :: .c (.lit true) :: J8 (J4 (.junk :: .c (.int .i64 ((deadDo p t).1.2.2.2.1.length : Int)) :: .c (.int .i64 ((i : Nat) : Int)) :: J32 (J8 (.c (.int .i64 ((deadDo p t).1.2.2.2.2.1.length : Int)) :: .c (.int .i64 0) :: J32 (J4 (.junk :: [])))))))) [.cells 29 (Ty.enc tTrace (deadDo p t).1)])
      (.call 25 [.agg [.int .i64 (deadDo p t).1.2.2.2.2.2.2.1, .int .i64 (deadDo p t).1.2.2.2.2.2.2.2.1, .ro tVal (deadDo p t).1.2.2.2.2.2.2.2.2.1, .ro tMake (deadDo p t).1.2.2.2.2.2.2.2.2.2], .c (.int .i64 ((i : Nat) : Int))] false (.c (.bool (decide (((i : Nat) : Int) ∈ dvals (deadDo p t).1.2.2.2.2.2.2)))) <|
       .stop (lp (bodyOf Tryd.f8) 1) (J4 (.junk :: .c (.ptr 0 0 0 0) :: .junk :: .c (.int .i64 ((i : Nat) : Int)) :: .c (.bool (decide (((i : Nat) : Int) ∈ dvals (deadDo p t).1.2.2.2.2.2.2))) :: J8 (J4 (.junk :: .c (.int .i64 ((deadDo p t).1.2.2.2.1.length : Int)) :: .c (.int .i64 ((i : Nat) : Int)) :: J32 (J8 (.c (.int .i64 ((deadDo p t).1.2.2.2.2.1.length : Int)) :: .c (.int .i64 0) :: J32 (J4 (.junk :: [])))))))) [.cells 29 (Ty.enc tTrace (deadDo p t).1)])))))
  (.call 15 [] false (.c (.bool true)) <|
   .ret (.c (.bool true)) [.cells 29 (Ty.enc tTrace (deadDo p t).1)])
theorem deadNone_l0_R_ok (p : EProg) (t : ETrace) (i : Nat) : aRound Tryd.prog oc126 Tryd.f8 deadNone_lv 3000 (lp (bodyOf Tryd.f8) 0) (J4 (.junk :: .c (.ptr 0 0 0 0) :: J16 (.c (.int .i64 ((deadDo p t).1.2.2.2.1.length : Int)) :: .c (.int .i64 ((i : Nat) : Int)) :: J32 (J32 (J8 (J4 (J2 (.junk :: [])))))))) [.cells 29 (Ty.enc tTrace (deadDo p t).1)] = deadNone_l0_R p t i := by kernel_rfl
theorem deadNone_l2 (p : EProg) (t : ETrace) (i : Nat) (f : Bool) (k : Nat) (he : (deadDo p t).2 = 0) (hi : i < (deadDo p t).1.2.2.2.1.length) (hk : i < k) (hA : f = true ∨ ∃ q, k ≤ q ∧ q < (deadDo p t).1.2.2.2.1.length ∧ ((i : Nat) : Int) ∈ askF ((deadDo p t).1.2.2.2.1.getD q tIns.dflt)) (hn : Run Tryd.prog 8 (retQ Tryd.prog (.c (.bool (true)))) (lp (bodyOf Tryd.f8) 0) (J4 (.junk :: .c (.ptr 0 0 0 0) :: J16 (.c (.int .i64 ((deadDo p t).1.2.2.2.1.length : Int)) :: .c (.int .i64 (((i + 1) : Nat) : Int)) :: J32 (J32 (J8 (J4 (J2 (.junk :: [])))))))) [.cells 29 (Ty.enc tTrace (deadDo p t).1)]) : Run Tryd.prog 8 (retQ Tryd.prog (.c (.bool (true)))) (lp (bodyOf Tryd.f8) 2) (J4 (.junk :: .c (.ptr 0 0 0 0) :: .junk :: .c (.int .i64 ((i : Nat) : Int)) :: .c (.bool f) :: .junk :: .c (.int .i64 ((k : Nat) : Int)) :: J8 (J2 (.junk :: .c (.int .i64 ((deadDo p t).1.2.2.2.1.length : Int)) :: .c (.int .i64 ((i : Nat) : Int)) :: J32 (J32 (J8 (J4 (J2 (.junk :: []))))))))) [.cells 29 (Ty.enc tTrace (deadDo p t).1)] :=
  Run.roundA oc126 deadNone_lv 3000 Tryd.func8 mixed (deadNone_l2_R p t i f k) (deadNone_l2_R_ok p t i f k) (by
    unfold deadNone_l2_R
    obtain ⟨hin, hxn, hsX, hsT, hsB⟩ := dead_small he
    refine g_iteD (fun h0 => ?_) (fun h0 => ?_)
    · refine g_ite (fun h1 => ?_) (fun h1 => ?_)
      · refine g_need (by first | omega | (rw [i64_iff]; omega) | (rw [i64_iff]; constructor <;> omega)) ?_
        refine g_stop (RunN.keep [0] (F4 (false :: true :: false :: true :: true :: false :: true :: F8 (F2 (false :: true :: true :: F32 (F32 (F8 (F4 (F2 (false :: []))))))))) n0 (by decide) rfl rfl ?_)
        refine RunN.less (env' := (J4 (.junk :: .c (.ptr 0 0 0 0) :: .junk :: .c (.int .i64 ((i : Nat) : Int)) :: .c (.bool true) :: .junk :: .c (.int .i64 (((k + 1) : Nat) : Int)) :: J8 (J2 (.junk :: .c (.int .i64 ((deadDo p t).1.2.2.2.1.length : Int)) :: .c (.int .i64 ((i : Nat) : Int)) :: J32 (J32 (J8 (J4 (J2 (.junk :: [])))))))))) (H' := [.cells 29 (Ty.enc tTrace (deadDo p t).1)]) (leAVs.skip 8 rfl ⟨rfl, leAVs.same rfl⟩) (leHs.refl _) ?_
        exact deadNone_l2 p t i true (k + 1) he hi (by omega) (by first | exact .inl rfl | exact hA.elim (fun hA => by first | exact .inl hA | exact absurd hA (by simp_all)) (fun ⟨q, q1, q2, q3⟩ => if e : q = k then .inl (by subst e; exact decide_eq_true q3) else .inr ⟨q, by omega, q2, q3⟩)) hn
      · refine g_need (by first | omega | (rw [i64_iff]; omega) | (rw [i64_iff]; constructor <;> omega)) ?_
        refine g_need (by first | omega | (rw [i64_iff]; omega) | (rw [i64_iff]; constructor <;> omega)) ?_
        refine g_call (asks_fun ((deadDo p t).1.2.2.2.1.getD k tIns.dflt)) (fun h => nomatch h) ?_
        refine g_call (hasI_fun (askF ((deadDo p t).1.2.2.2.1.getD k tIns.dflt)) ((i : Nat) : Int)) (fun h => nomatch h) ?_
        refine g_need (by first | omega | (rw [i64_iff]; omega) | (rw [i64_iff]; constructor <;> omega)) ?_
        refine g_stop (RunN.keep [0] (F4 (false :: true :: false :: true :: true :: false :: true :: F8 (F2 (false :: true :: true :: F32 (F32 (F8 (F4 (F2 (false :: []))))))))) n0 (by decide) rfl rfl ?_)
        exact deadNone_l2 p t i (decide (((i : Nat) : Int) ∈ (askF ((deadDo p t).1.2.2.2.1.getD k tIns.dflt)))) (k + 1) he hi (by omega) (by first | exact .inl rfl | exact hA.elim (fun hA => by first | exact .inl hA | exact absurd hA (by simp_all)) (fun ⟨q, q1, q2, q3⟩ => if e : q = k then .inl (by subst e; exact decide_eq_true q3) else .inr ⟨q, by omega, q2, q3⟩)) hn
    · refine g_iteN (fun h1 => ?_) (fun h1 => ?_)
      · refine g_rq ?_
        exact g_rl ((show (false : Bool) = true from by first | rfl | exact (hA.elim (fun hA => by simp_all) (fun ⟨q, q1, q2, q3⟩ => by omega) : False).elim)) rfl
      · refine g_need (by first | omega | (rw [i64_iff]; omega) | (rw [i64_iff]; constructor <;> omega)) ?_
        refine g_stop (RunN.keep [0] (F4 (false :: true :: F16 (true :: true :: F32 (F32 (F8 (F4 (F2 (false :: [])))))))) n0 (by decide) rfl rfl ?_)
        exact hn
    )
  termination_by (deadDo p t).1.2.2.2.1.length - k
  decreasing_by all_goals omega
theorem deadNone_l1 (p : EProg) (t : ETrace) (i : Nat) (f : Bool) (k : Nat) (he : (deadDo p t).2 = 0) (hi : i < (deadDo p t).1.2.2.2.1.length) (hk : k ≤ (deadDo p t).1.2.2.2.2.1.length) (hA : f = true ∨ (∃ q, k ≤ q ∧ q < (deadDo p t).1.2.2.2.2.1.length ∧ ((i : Nat) : Int) ∈ dvals ((deadDo p t).1.2.2.2.2.1.getD q tExit.dflt)) ∨ ∃ q, i + 1 ≤ q ∧ q < (deadDo p t).1.2.2.2.1.length ∧ ((i : Nat) : Int) ∈ askF ((deadDo p t).1.2.2.2.1.getD q tIns.dflt)) (hn : Run Tryd.prog 8 (retQ Tryd.prog (.c (.bool (true)))) (lp (bodyOf Tryd.f8) 0) (J4 (.junk :: .c (.ptr 0 0 0 0) :: J16 (.c (.int .i64 ((deadDo p t).1.2.2.2.1.length : Int)) :: .c (.int .i64 (((i + 1) : Nat) : Int)) :: J32 (J32 (J8 (J4 (J2 (.junk :: [])))))))) [.cells 29 (Ty.enc tTrace (deadDo p t).1)]) : Run Tryd.prog 8 (retQ Tryd.prog (.c (.bool (true)))) (lp (bodyOf Tryd.f8) 1) (J4 (.junk :: .c (.ptr 0 0 0 0) :: .junk :: .c (.int .i64 ((i : Nat) : Int)) :: .c (.bool f) :: J8 (J4 (.junk :: .c (.int .i64 ((deadDo p t).1.2.2.2.1.length : Int)) :: .c (.int .i64 ((i : Nat) : Int)) :: J32 (J8 (.c (.int .i64 ((deadDo p t).1.2.2.2.2.1.length : Int)) :: .c (.int .i64 ((k : Nat) : Int)) :: J32 (J4 (.junk :: [])))))))) [.cells 29 (Ty.enc tTrace (deadDo p t).1)] :=
  Run.roundA oc126 deadNone_lv 3000 Tryd.func8 mixed (deadNone_l1_R p t i f k) (deadNone_l1_R_ok p t i f k) (by
    unfold deadNone_l1_R
    obtain ⟨hin, hxn, hsX, hsT, hsB⟩ := dead_small he
    refine g_iteD (fun h0 => ?_) (fun h0 => ?_)
    · refine g_ite (fun h1 => ?_) (fun h1 => ?_)
      · refine g_need (by first | omega | (rw [i64_iff]; omega) | (rw [i64_iff]; constructor <;> omega)) ?_
        refine g_stop (RunN.keep [0] (F4 (false :: true :: false :: true :: true :: F8 (F4 (false :: true :: true :: F32 (F8 (true :: true :: F32 (F4 (false :: [])))))))) n0 (by decide) rfl rfl ?_)
        refine RunN.less (env' := (J4 (.junk :: .c (.ptr 0 0 0 0) :: .junk :: .c (.int .i64 ((i : Nat) : Int)) :: .c (.bool true) :: J8 (J4 (.junk :: .c (.int .i64 ((deadDo p t).1.2.2.2.1.length : Int)) :: .c (.int .i64 ((i : Nat) : Int)) :: J32 (J8 (.c (.int .i64 ((deadDo p t).1.2.2.2.2.1.length : Int)) :: .c (.int .i64 (((k + 1) : Nat) : Int)) :: J32 (J4 (.junk :: []))))))))) (H' := [.cells 29 (Ty.enc tTrace (deadDo p t).1)]) (leAVs.skip 8 rfl ⟨rfl, leAVs.same rfl⟩) (leHs.refl _) ?_
        exact deadNone_l1 p t i true (k + 1) he hi (by omega) (by first | exact .inl rfl | exact hA.elim (fun hA => by first | exact .inl hA | exact absurd hA (by simp_all)) (fun hA => hA.elim (fun ⟨q, q1, q2, q3⟩ => if e : q = k then .inl (by subst e; exact decide_eq_true q3) else .inr (.inl ⟨q, by omega, q2, q3⟩)) (fun hA => .inr (.inr hA)))) hn
      · refine g_need (by first | omega | (rw [i64_iff]; omega) | (rw [i64_iff]; constructor <;> omega)) ?_
        refine g_need (by first | omega | (rw [i64_iff]; omega) | (rw [i64_iff]; constructor <;> omega)) ?_
        refine g_call (namesX_fun ((deadDo p t).1.2.2.2.2.1.getD k tExit.dflt) ((i : Nat) : Int) (by first | exact hsT | exact hsB | exact hsX k (by omega))) (fun h => nomatch h) ?_
        refine g_need (by first | omega | (rw [i64_iff]; omega) | (rw [i64_iff]; constructor <;> omega)) ?_
        refine g_stop (RunN.keep [0] (F4 (false :: true :: false :: true :: true :: F8 (F4 (false :: true :: true :: F32 (F8 (true :: true :: F32 (F4 (false :: [])))))))) n0 (by decide) rfl rfl ?_)
        exact deadNone_l1 p t i (decide (((i : Nat) : Int) ∈ dvals ((deadDo p t).1.2.2.2.2.1.getD k tExit.dflt))) (k + 1) he hi (by omega) (by first | exact .inl rfl | exact hA.elim (fun hA => by first | exact .inl hA | exact absurd hA (by simp_all)) (fun hA => hA.elim (fun ⟨q, q1, q2, q3⟩ => if e : q = k then .inl (by subst e; exact decide_eq_true q3) else .inr (.inl ⟨q, by omega, q2, q3⟩)) (fun hA => .inr (.inr hA)))) hn
    · refine g_need (by first | omega | (rw [i64_iff]; omega) | (rw [i64_iff]; constructor <;> omega)) ?_
      refine g_stop (RunN.keep [0] (F4 (false :: true :: false :: true :: true :: false :: true :: F8 (F2 (false :: true :: true :: F32 (F32 (F8 (F4 (F2 (false :: []))))))))) n0 (by decide) rfl rfl ?_)
      exact deadNone_l2 p t i f (i + 1) he hi (by omega) (hA.elim .inl fun hA => hA.elim (fun ⟨q, q1, q2, q3⟩ => by omega) .inr) hn
    )
  termination_by (deadDo p t).1.2.2.2.2.1.length - k
  decreasing_by all_goals omega
theorem deadNone_l0 (p : EProg) (t : ETrace) (i : Nat) (he : (deadDo p t).2 = 0) (hi : i ≤ (deadDo p t).1.2.2.2.1.length) : Run Tryd.prog 8 (retQ Tryd.prog (.c (.bool (true)))) (lp (bodyOf Tryd.f8) 0) (J4 (.junk :: .c (.ptr 0 0 0 0) :: J16 (.c (.int .i64 ((deadDo p t).1.2.2.2.1.length : Int)) :: .c (.int .i64 ((i : Nat) : Int)) :: J32 (J32 (J8 (J4 (J2 (.junk :: [])))))))) [.cells 29 (Ty.enc tTrace (deadDo p t).1)] :=
  Run.roundA oc126 deadNone_lv 3000 Tryd.func8 mixed (deadNone_l0_R p t i) (deadNone_l0_R_ok p t i) (by
    unfold deadNone_l0_R
    obtain ⟨hin, hxn, hsX, hsT, hsB⟩ := dead_small he
    refine g_iteD (fun h0 => ?_) (fun h0 => ?_)
    · refine g_need (by first | omega | (rw [i64_iff]; omega) | (rw [i64_iff]; constructor <;> omega)) ?_
      refine g_need (by first | omega | (rw [i64_iff]; omega) | (rw [i64_iff]; constructor <;> omega)) ?_
      refine g_iteD (fun h1 => ?_) (fun h1 => ?_)
      · refine g_need (by first | omega | (rw [i64_iff]; omega) | (rw [i64_iff]; constructor <;> omega)) ?_
        refine g_stop (RunN.keep [0] (F4 (false :: true :: F16 (true :: true :: F32 (F32 (F8 (F4 (F2 (false :: [])))))))) n0 (by decide) rfl rfl ?_)
        exact deadNone_l0 p t (i + 1) he (by omega)
      · refine g_need (by first | omega | (rw [i64_iff]; omega) | (rw [i64_iff]; constructor <;> omega)) ?_
        refine g_need (by first | omega | (rw [i64_iff]; omega) | (rw [i64_iff]; constructor <;> omega)) ?_
        refine g_call (tells_fun ((deadDo p t).1.2.2.2.1.getD i tIns.dflt).1) (fun h => nomatch h) ?_
        refine g_iteN (fun h2 => ?_) (fun h2 => ?_)
        · refine g_need (by first | omega | (rw [i64_iff]; omega) | (rw [i64_iff]; constructor <;> omega)) ?_
          refine g_stop (RunN.keep [0] (F4 (false :: true :: F16 (true :: true :: F32 (F32 (F8 (F4 (F2 (false :: [])))))))) n0 (by decide) rfl rfl ?_)
          exact deadNone_l0 p t (i + 1) he (by omega)
        · refine g_iteD (fun h3 => ?_) (fun h3 => ?_)
          · refine g_iteD (fun h4 => ?_) (fun h4 => ?_)
            · refine g_need (by first | omega | (rw [i64_iff]; omega) | (rw [i64_iff]; constructor <;> omega)) ?_
              refine g_stop (RunN.keep [0] (F4 (false :: true :: F16 (true :: true :: F32 (F32 (F8 (F4 (F2 (false :: [])))))))) n0 (by decide) rfl rfl ?_)
              exact deadNone_l0 p t (i + 1) he (by omega)
            · refine g_call (namesX_fun (deadDo p t).1.2.2.2.2.2.1 ((i : Nat) : Int) (by first | exact hsT | exact hsB | exact hsX k (by omega))) (fun h => nomatch h) ?_
              refine g_iteD (fun h5 => ?_) (fun h5 => ?_)
              · refine g_stop (RunN.keep [0] (F4 (false :: true :: false :: true :: true :: F8 (F4 (false :: true :: true :: F32 (F8 (true :: true :: F32 (F4 (false :: [])))))))) n0 (by decide) rfl rfl ?_)
                refine RunN.less (env' := (J4 (.junk :: .c (.ptr 0 0 0 0) :: .junk :: .c (.int .i64 ((i : Nat) : Int)) :: .c (.bool true) :: J8 (J4 (.junk :: .c (.int .i64 ((deadDo p t).1.2.2.2.1.length : Int)) :: .c (.int .i64 ((i : Nat) : Int)) :: J32 (J8 (.c (.int .i64 ((deadDo p t).1.2.2.2.2.1.length : Int)) :: .c (.int .i64 ((0 : Nat) : Int)) :: J32 (J4 (.junk :: []))))))))) (H' := [.cells 29 (Ty.enc tTrace (deadDo p t).1)]) (leAVs.skip 8 rfl ⟨rfl, leAVs.same rfl⟩) (leHs.refl _) ?_
                exact deadNone_l1 p t i true 0 he (by omega) (by omega) (by first | exact .inl rfl | (have q := dead_law he i (by omega) (by first | assumption | omega) (by simp_all) (by first | omega | (intro q; omega)); exact q.elim (fun q => absurd q (by simp_all)) fun q => q.elim (fun q => .inl (decide_eq_true q)) fun q => q.elim (fun ⟨k, k1, k2⟩ => .inr (.inl ⟨k, by omega, k1, k2⟩)) (fun ⟨k, k1, k2, k3⟩ => .inr (.inr ⟨k, by omega, k2, k3⟩)))) (deadNone_l0 p t (i + 1) he (by omega))
              · refine g_call (namesX_fun (deadDo p t).1.2.2.2.2.2.2 ((i : Nat) : Int) (by first | exact hsT | exact hsB | exact hsX k (by omega))) (fun h => nomatch h) ?_
                refine g_stop (RunN.keep [0] (F4 (false :: true :: false :: true :: true :: F8 (F4 (false :: true :: true :: F32 (F8 (true :: true :: F32 (F4 (false :: [])))))))) n0 (by decide) rfl rfl ?_)
                exact deadNone_l1 p t i (decide (((i : Nat) : Int) ∈ dvals (deadDo p t).1.2.2.2.2.2.2)) 0 he (by omega) (by omega) (by first | exact .inl rfl | (have q := dead_law he i (by omega) (by first | assumption | omega) (by simp_all) (by first | omega | (intro q; omega)); exact q.elim (fun q => absurd q (by simp_all)) fun q => q.elim (fun q => .inl (decide_eq_true q)) fun q => q.elim (fun ⟨k, k1, k2⟩ => .inr (.inl ⟨k, by omega, k1, k2⟩)) (fun ⟨k, k1, k2, k3⟩ => .inr (.inr ⟨k, by omega, k2, k3⟩)))) (deadNone_l0 p t (i + 1) he (by omega))
          · refine g_call (namesX_fun (deadDo p t).1.2.2.2.2.2.1 ((i : Nat) : Int) (by first | exact hsT | exact hsB | exact hsX k (by omega))) (fun h => nomatch h) ?_
            refine g_iteD (fun h4 => ?_) (fun h4 => ?_)
            · refine g_stop (RunN.keep [0] (F4 (false :: true :: false :: true :: true :: F8 (F4 (false :: true :: true :: F32 (F8 (true :: true :: F32 (F4 (false :: [])))))))) n0 (by decide) rfl rfl ?_)
              refine RunN.less (env' := (J4 (.junk :: .c (.ptr 0 0 0 0) :: .junk :: .c (.int .i64 ((i : Nat) : Int)) :: .c (.bool true) :: J8 (J4 (.junk :: .c (.int .i64 ((deadDo p t).1.2.2.2.1.length : Int)) :: .c (.int .i64 ((i : Nat) : Int)) :: J32 (J8 (.c (.int .i64 ((deadDo p t).1.2.2.2.2.1.length : Int)) :: .c (.int .i64 ((0 : Nat) : Int)) :: J32 (J4 (.junk :: []))))))))) (H' := [.cells 29 (Ty.enc tTrace (deadDo p t).1)]) (leAVs.skip 8 rfl ⟨rfl, leAVs.same rfl⟩) (leHs.refl _) ?_
              exact deadNone_l1 p t i true 0 he (by omega) (by omega) (by first | exact .inl rfl | (have q := dead_law he i (by omega) (by first | assumption | omega) (by simp_all) (by first | omega | (intro q; omega)); exact q.elim (fun q => absurd q (by simp_all)) fun q => q.elim (fun q => .inl (decide_eq_true q)) fun q => q.elim (fun ⟨k, k1, k2⟩ => .inr (.inl ⟨k, by omega, k1, k2⟩)) (fun ⟨k, k1, k2, k3⟩ => .inr (.inr ⟨k, by omega, k2, k3⟩)))) (deadNone_l0 p t (i + 1) he (by omega))
            · refine g_call (namesX_fun (deadDo p t).1.2.2.2.2.2.2 ((i : Nat) : Int) (by first | exact hsT | exact hsB | exact hsX k (by omega))) (fun h => nomatch h) ?_
              refine g_stop (RunN.keep [0] (F4 (false :: true :: false :: true :: true :: F8 (F4 (false :: true :: true :: F32 (F8 (true :: true :: F32 (F4 (false :: [])))))))) n0 (by decide) rfl rfl ?_)
              exact deadNone_l1 p t i (decide (((i : Nat) : Int) ∈ dvals (deadDo p t).1.2.2.2.2.2.2)) 0 he (by omega) (by omega) (by first | exact .inl rfl | (have q := dead_law he i (by omega) (by first | assumption | omega) (by simp_all) (by first | omega | (intro q; omega)); exact q.elim (fun q => absurd q (by simp_all)) fun q => q.elim (fun q => .inl (decide_eq_true q)) fun q => q.elim (fun ⟨k, k1, k2⟩ => .inr (.inl ⟨k, by omega, k1, k2⟩)) (fun ⟨k, k1, k2, k3⟩ => .inr (.inr ⟨k, by omega, k2, k3⟩)))) (deadNone_l0 p t (i + 1) he (by omega))
    · refine g_call (irred_fun) (fun h => nomatch h) ?_
      refine g_rq ?_
      exact g_rl (leAV.refl _) rfl
    )
  termination_by (deadDo p t).1.2.2.2.1.length - i
  decreasing_by all_goals omega
theorem deadNone_fun (p : EProg) (t : ETrace) : AFun Tryd.prog 8 [.agg (tProg.enc p), .agg (tTrace.enc t)] (.c (.bool (true))) :=
  AFun.of oc126 deadNone_lv 3000 Tryd.func8 mixed rfl (by decide) (Nat.le_of_ble_eq_true rfl) _ (deadNone_T_ok p t) fun hF => by
    unfold deadNone_T
    refine g_call (deaddo_fun p t) (fun h => nomatch h) ?_
    refine g_iteND (fun h0 => ?_) (fun h0 => ?_)
    · refine g_call (irred_fun) (fun h => nomatch h) ?_
      refine g_rq ?_
      exact g_rl (leAV.refl _) rfl
    · refine g_stop (RunN.keep [2] (F4 (false :: true :: F16 (true :: true :: F32 (F32 (F8 (F4 (F2 (false :: [])))))))) n0 (by decide) rfl rfl ?_)
      exact deadNone_l0 p t 0 (by first | exact h0 | simp_all) (by omega)

end Go.Proofs.YtefkifdhjabdiaaDoor
