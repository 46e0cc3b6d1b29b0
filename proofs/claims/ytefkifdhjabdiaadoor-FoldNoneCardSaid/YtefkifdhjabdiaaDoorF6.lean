/- What the laws' texts lean on, part 7: lemmas and the contracts of functions. No condition. -/
import Derived.Test.YtefkifdhjabdiaaDoorF5
namespace Go.Proofs.YtefkifdhjabdiaaDoor
set_option linter.unusedVariables false
set_option linter.unusedSimpArgs false
set_option maxRecDepth 100000
def cutLoop (loop : Int) : Nat → List EIns → List Int → List Int → Bool → Int → List EIns → Option (List Int × Bool × Int × List EIns)
  | i, x :: xs, n :: ns, at_, f, lo, ins =>
    if n = (i : Int) then cutLoop loop (i + 1) xs ns (at_ ++ [(ins.length : Int)]) (f && cutInsOk (at_ ++ [(ins.length : Int)]) x) (if (i : Int) = loop then (ins.length : Int) else lo) (ins ++ [cutIns (at_ ++ [(ins.length : Int)]) x])
    else if n = -1 then cutLoop loop (i + 1) xs ns (at_ ++ [-1]) f (if (i : Int) = loop then (ins.length : Int) else lo) ins
    else if 0 ≤ n then (if n < (i : Int) then cutLoop loop (i + 1) xs ns (at_ ++ [at_.getD n.toNat tI.dflt]) f (if (i : Int) = loop then (ins.length : Int) else lo) ins else none) else none
  | _, _, _, at_, f, lo, ins => some (at_, f, lo, ins)
def noT : ETrace := (0, 0, 0, [], [], (0, 0, [], []), (0, 0, [], []))
def endF (t : ETrace) (at_ : List Int) (f : Bool) (lo : Int) (ins : List EIns) (xs : List EExit) (k : Nat) : ETrace × Int := if (f && ((t.2.2.2.2.1.drop k).all (cutExitOk at_) && (cutExitOk at_ t.2.2.2.2.2.1 && cutExitOk at_ t.2.2.2.2.2.2))) = true then ((t.1, t.2.1, lo, ins, xs ++ (t.2.2.2.2.1.drop k).map (cutExit at_), cutExit at_ t.2.2.2.2.2.1, cutExit at_ t.2.2.2.2.2.2), 0) else (noT, 3)
section
variable {t : ETrace} {at_ : List Int} {f : Bool} {lo : Int} {ins : List EIns} {xs : List EExit} {k : Nat}
theorem endF_t (hk : t.2.2.2.2.1.length ≤ k) (h : ((f && cutExitOk at_ t.2.2.2.2.2.1) && cutExitOk at_ t.2.2.2.2.2.2) = true) : endF t at_ f lo ins xs k = ((t.1, t.2.1, lo, ins, xs, cutExit at_ t.2.2.2.2.2.1, cutExit at_ t.2.2.2.2.2.2), 0) := by
  unfold endF
  rw [List.drop_eq_nil_of_le hk, List.all_nil, Bool.true_and, ← Bool.and_assoc, if_pos h, List.map_nil, List.append_nil]
theorem endF_f (hk : t.2.2.2.2.1.length ≤ k) (h : ((f && cutExitOk at_ t.2.2.2.2.2.1) && cutExitOk at_ t.2.2.2.2.2.2) = false) : endF t at_ f lo ins xs k = (noT, 3) := by
  unfold endF
  rw [List.drop_eq_nil_of_le hk, List.all_nil, Bool.true_and, ← Bool.and_assoc, if_neg (by rw [h]; decide)]
theorem endF_step (hk : k < t.2.2.2.2.1.length) : endF t at_ f lo ins xs k = endF t at_ (f && cutExitOk at_ (t.2.2.2.2.1.getD k tExit.dflt)) lo ins (xs ++ [cutExit at_ (t.2.2.2.2.1.getD k tExit.dflt)]) (k + 1) := by
  unfold endF
  rw [dropCons (α := EExit) (Ty.dflt tExit) hk, List.all_cons, List.map_cons, List.append_cons]
  simp only [Bool.and_assoc]
end
def cutEnd (t : ETrace) (at_ : List Int) (f : Bool) (lo : Int) (ins : List EIns) : ETrace × Int := endF t at_ f lo ins [] 0
def loopAt (t : ETrace) (lo : Int) (n : Nat) : Int := if t.2.2.1 ≤ 0 then 0 else if (t.2.2.2.1.length : Int) ≤ t.2.2.1 then (n : Int) else lo
def cutThen (t : ETrace) : Option (List Int × Bool × Int × List EIns) → ETrace × Int
  | none => (noT, 3)
  | some r => cutEnd t r.1 r.2.1 (loopAt t r.2.2.1 r.2.2.2.length) r.2.2.2
def cutF (t : ETrace) (to : List Int) : ETrace × Int := if to.length = t.2.2.2.1.length then cutThen t (cutLoop t.2.2.1 0 t.2.2.2.1 to [] true 0 []) else (noT, 3)
def traceSm (t : ETrace) : Prop := t.2.2.2.1.length ≤ 1000000 ∧ (t.2.2.2.2.1.length ≤ 1000000 ∧ ∀ x ∈ t.2.2.2.2.1, exitSm x) ∧ exitSm t.2.2.2.2.2.1 ∧ exitSm t.2.2.2.2.2.2
noncomputable def oc23 : Orc where
  pure := fun f args => match f, args with
    | _, _ => none
  heap := fun f args H => match f, args with
    | 48, [.one (.c (.ptr b0 0 0 0)), a1] => match cellsAs 97 H[b0]? with
      | some [.osl b1 1 _, c0_1] => (match dA tIns a1, dC .bool c0_1, ovecAs 3 tI H[b1]? with
        | some x1, some y0_1, some y1 => hres [b0, b1] H (.agg (Ty.enc tIns (cutIns y1 x1))) [.cells 97 [.osl 1 1 y1.length, .bool (y0_1 && cutInsOk y1 x1)], .ovec 3 tI y1]
        | _, _, _ => none)
      | _ => none
    | 49, [.one (.c (.ptr b0 0 0 0)), a1] => match cellsAs 97 H[b0]? with
      | some [.osl b1 1 _, c0_1] => (match dA tExit a1, dC .bool c0_1, ovecAs 3 tI H[b1]? with
        | some x1, some y0_1, some y1 => hres [b0, b1] H (.agg (Ty.enc tExit (cutExit y1 x1))) [.cells 97 [.osl 1 1 y1.length, .bool (y0_1 && cutExitOk y1 x1)], .ovec 3 tI y1]
        | _, _, _ => none)
      | _ => none
    | _, _ => none
def cut_lv : LV := ⟨(false :: true :: true :: false :: true :: false :: true :: true :: F16 (F4 (true :: true :: true :: F32 (F32 (F16 (F8 (F4 (false :: true :: true :: true :: F16 (F8 (F4 (false :: []))))))))))), [24]⟩
abbrev bCm8 : AB := .cells 29 [.int .i64 0, .int .i64 0, .int .i64 0, .nilsl, .nilsl, .int .i64 0, .int .i64 0, .nilsl, .nilsl, .int .i64 0, .int .i64 0, .nilsl, .nilsl]
abbrev bCm9 : List CV := [.int .i64 0, .int .i64 0, .int .i64 0, .nilsl, .nilsl, .int .i64 0, .int .i64 0, .nilsl, .nilsl, .int .i64 0, .int .i64 0, .nilsl, .nilsl]
noncomputable def cut_T (t : ETrace) (to : List Int) : Tree :=
  .ite ((!(decide ((to.length : Int) = (t.2.2.2.1.length : Int)))))
  (.ret (.tup [.agg bCm9, .c (.int .i64 3)]) [.cells 29 (Ty.enc tTrace t), bCm8])
  (.stop (lp (bodyOf Tryd.f22) 0) (.junk :: .c (.ro tI to) :: .c (.ptr 0 0 0 0) :: .junk :: .c (.ptr 1 0 0 0) :: .junk :: .c (.ptr 2 0 0 0) :: .c (.ptr 3 0 0 0) :: J16 (J4 (.c (.ro tIns t.2.2.2.1) :: .c (.int .i64 (t.2.2.2.1.length : Int)) :: .c (.int .i64 0) :: J32 (J32 (J32 (J16 (J8 (J4 (.junk :: []))))))))) [.cells 29 (Ty.enc tTrace t), bCm8, .cells 97 [.nilsl, .lit true], .cells 29 [.int .i64 t.1, .int .i64 t.2.1, .int .i64 0, .nilsl, .nilsl, .int .i64 0, .int .i64 0, .nilsl, .nilsl, .int .i64 0, .int .i64 0, .nilsl, .nilsl]])
theorem cut_T_ok (t : ETrace) (to : List Int) : aRun Tryd.prog oc23 Tryd.f22 cut_lv 3000 [.code (bodyOf Tryd.f22)] ([.agg (tTrace.enc t), .c (.ro tI to)] ++ List.replicate (Func.ntmps Tryd.f22 - 2) .junk) [] = cut_T t to := by kernel_rfl
abbrev bCm1 (t : ETrace) (i : Nat) : AB := .cells 46 [.int .i64 (t.2.2.2.1.getD i tIns.dflt).1, .int .i64 (t.2.2.2.1.getD i tIns.dflt).2.1, .int .i64 (t.2.2.2.1.getD i tIns.dflt).2.2.1, .int .i64 (t.2.2.2.1.getD i tIns.dflt).2.2.2.1, .int .i64 (t.2.2.2.1.getD i tIns.dflt).2.2.2.2.1, .int .i64 (t.2.2.2.1.getD i tIns.dflt).2.2.2.2.2.1, .int .i64 (t.2.2.2.1.getD i tIns.dflt).2.2.2.2.2.2.1, .int .i64 (t.2.2.2.1.getD i tIns.dflt).2.2.2.2.2.2.2]
abbrev bCm3 (t : ETrace) (ins : List EIns) : AB := .cells 29 [.int .i64 t.1, .int .i64 t.2.1, .int .i64 ((ins.length : Nat) : Int), .osl 5 8 ins.length, .nilsl, .int .i64 0, .int .i64 0, .nilsl, .nilsl, .int .i64 0, .int .i64 0, .nilsl, .nilsl]
abbrev bCm5 (t : ETrace) (lo : Int) (ins : List EIns) : AB := .cells 29 [.int .i64 t.1, .int .i64 t.2.1, .int .i64 lo, .osl 5 8 ins.length, .nilsl, .int .i64 0, .int .i64 0, .nilsl, .nilsl, .int .i64 0, .int .i64 0, .nilsl, .nilsl]
abbrev bCm6 (t : ETrace) (i : Nat) : List AV := (J4 (.c (.ro tIns t.2.2.2.1) :: .c (.int .i64 (t.2.2.2.1.length : Int)) :: .c (.int .i64 (((i : Nat) : Int) + 1)) :: J32 (J32 (J32 (J16 (J8 (J4 (.junk :: []))))))))
abbrev bCm7 (t : ETrace) (i : Nat) : List AV := (J4 (.c (.ro tIns t.2.2.2.1) :: .c (.int .i64 (t.2.2.2.1.length : Int)) :: .c (.int .i64 ((i : Nat) : Int)) :: J32 (J32 (J32 (J16 (J8 (J4 (.junk :: []))))))))
noncomputable def cut_l0_R (t : ETrace) (to : List Int) (i : Nat) (f : Bool) (lo : Int) (at_ : List Int) (ins : List EIns) : Tree :=
  .ite (decide (((i : Nat) : Int) < (t.2.2.2.1.length : Int)))
  (.need ((0 : Int) ≤ ((i : Nat) : Int) ∧ (((i : Nat) : Int) : Int) < (t.2.2.2.1.length : Int)) <|
   .need (i < t.2.2.2.1.length) <|
   .ite (decide (((i : Nat) : Int) = t.2.2.1))
   (.need ((0 : Int) ≤ ((i : Nat) : Int) ∧ (((i : Nat) : Int) : Int) < (to.length : Int)) <|
    .need (i < to.length) <|
    .ite (decide ((to.getD i tI.dflt) = ((i : Nat) : Int)))
    (.need (at_.length = at_.length) <|
     .need (0 = 0 ∧ 1 = ([((ins.length : Nat) : Int)]).length) <|
     .need ((at_.length + ([((ins.length : Nat) : Int)]).length) * 8 ≤ 140737488355328) <|
     .callH 48 [.c (.ptr 2 0 0 0), .agg [.int .i64 (t.2.2.2.1.getD i tIns.dflt).1, .int .i64 (t.2.2.2.1.getD i tIns.dflt).2.1, .int .i64 (t.2.2.2.1.getD i tIns.dflt).2.2.1, .int .i64 (t.2.2.2.1.getD i tIns.dflt).2.2.2.1, .int .i64 (t.2.2.2.1.getD i tIns.dflt).2.2.2.2.1, .int .i64 (t.2.2.2.1.getD i tIns.dflt).2.2.2.2.2.1, .int .i64 (t.2.2.2.1.getD i tIns.dflt).2.2.2.2.2.2.1, .int .i64 (t.2.2.2.1.getD i tIns.dflt).2.2.2.2.2.2.2]] [.cells 29 (Ty.enc tTrace t), bCm8, .cells 97 [.osl 8 1 (at_ ++ [((ins.length : Nat) : Int)]).length, .bool f], (bCm3 t ins), .dead, .ovec 46 tIns ins, (bCm1 t i), .vec 3 tI ([((ins.length : Nat) : Int)]), .ovec 3 tI (at_ ++ [((ins.length : Nat) : Int)])] (.agg [.int .i64 (cutIns (at_ ++ [((ins.length : Nat) : Int)]) (t.2.2.2.1.getD i tIns.dflt)).1, .int .i64 (cutIns (at_ ++ [((ins.length : Nat) : Int)]) (t.2.2.2.1.getD i tIns.dflt)).2.1, .int .i64 (cutIns (at_ ++ [((ins.length : Nat) : Int)]) (t.2.2.2.1.getD i tIns.dflt)).2.2.1, .int .i64 (cutIns (at_ ++ [((ins.length : Nat) : Int)]) (t.2.2.2.1.getD i tIns.dflt)).2.2.2.1, .int .i64 (cutIns (at_ ++ [((ins.length : Nat) : Int)]) (t.2.2.2.1.getD i tIns.dflt)).2.2.2.2.1, .int .i64 (cutIns (at_ ++ [((ins.length : Nat) : Int)]) (t.2.2.2.1.getD i tIns.dflt)).2.2.2.2.2.1, .int .i64 (cutIns (at_ ++ [((ins.length : Nat) : Int)]) (t.2.2.2.1.getD i tIns.dflt)).2.2.2.2.2.2.1, .int .i64 (cutIns (at_ ++ [((ins.length : Nat) : Int)]) (t.2.2.2.1.getD i tIns.dflt)).2.2.2.2.2.2.2]) [.cells 29 (Ty.enc tTrace t), bCm8, .cells 97 [.osl 8 1 (at_ ++ [((ins.length : Nat) : Int)]).length, .bool (f && cutInsOk (at_ ++ [((ins.length : Nat) : Int)]) (t.2.2.2.1.getD i tIns.dflt))], (bCm3 t ins), .dead, .ovec 46 tIns ins, (bCm1 t i), .vec 3 tI ([((ins.length : Nat) : Int)]), .ovec 3 tI (at_ ++ [((ins.length : Nat) : Int)])] [2, 8] <|
     .need (ins.length = ins.length) <|
     .need (0 = 0 ∧ 1 = ([(cutIns (at_ ++ [((ins.length : Nat) : Int)]) (t.2.2.2.1.getD i tIns.dflt))]).length) <|
     .need ((ins.length + ([(cutIns (at_ ++ [((ins.length : Nat) : Int)]) (t.2.2.2.1.getD i tIns.dflt))]).length) * 64 ≤ 140737488355328) <|
     .need (inR .i64 (((i : Nat) : Int) + 1)) <|
     .stop (lp (bodyOf Tryd.f22) 0) (.junk :: .c (.ro tI to) :: .c (.ptr 0 0 0 0) :: .junk :: .c (.ptr 1 0 0 0) :: .junk :: .c (.ptr 2 0 0 0) :: .c (.ptr 3 0 0 0) :: J16 (bCm6 t i)) [.cells 29 (Ty.enc tTrace t), bCm8, .cells 97 [.osl 8 1 (at_ ++ [((ins.length : Nat) : Int)]).length, .bool (f && cutInsOk (at_ ++ [((ins.length : Nat) : Int)]) (t.2.2.2.1.getD i tIns.dflt))], .cells 29 [.int .i64 t.1, .int .i64 t.2.1, .int .i64 ((ins.length : Nat) : Int), .osl 10 8 (ins ++ [(cutIns (at_ ++ [((ins.length : Nat) : Int)]) (t.2.2.2.1.getD i tIns.dflt))]).length, .nilsl, .int .i64 0, .int .i64 0, .nilsl, .nilsl, .int .i64 0, .int .i64 0, .nilsl, .nilsl], .dead, .dead, (bCm1 t i), .vec 3 tI ([((ins.length : Nat) : Int)]), .ovec 3 tI (at_ ++ [((ins.length : Nat) : Int)]), .vec 46 tIns ([(cutIns (at_ ++ [((ins.length : Nat) : Int)]) (t.2.2.2.1.getD i tIns.dflt))]), .ovec 46 tIns (ins ++ [(cutIns (at_ ++ [((ins.length : Nat) : Int)]) (t.2.2.2.1.getD i tIns.dflt))])])
    (.ite (decide ((to.getD i tI.dflt) = (-1)))
     (.need (at_.length = at_.length) <|
      .need (0 = 0 ∧ 1 = ([(-1)]).length) <|
      .need ((at_.length + ([(-1)]).length) * 8 ≤ 140737488355328) <|
      .need (inR .i64 (((i : Nat) : Int) + 1)) <|
      .stop (lp (bodyOf Tryd.f22) 0) (.junk :: .c (.ro tI to) :: .c (.ptr 0 0 0 0) :: .junk :: .c (.ptr 1 0 0 0) :: .junk :: .c (.ptr 2 0 0 0) :: .c (.ptr 3 0 0 0) :: J16 (bCm6 t i)) [.cells 29 (Ty.enc tTrace t), bCm8, .cells 97 [.osl 8 1 (at_ ++ [(-1)]).length, .bool f], (bCm3 t ins), .dead, .ovec 46 tIns ins, (bCm1 t i), .vec 3 tI ([(-1)]), .ovec 3 tI (at_ ++ [(-1)])])
     (.ite (decide ((0 : Int) ≤ (to.getD i tI.dflt)))
      (.ite (decide ((to.getD i tI.dflt) < ((i : Nat) : Int)))
       (.need ((0 : Int) ≤ (to.getD i tI.dflt) ∧ ((to.getD i tI.dflt) : Int) < ((at_.length : Nat) : Int)) <|
        .need ((Int.toNat (to.getD i tI.dflt)) < at_.length) <|
        .need (at_.length = at_.length) <|
        .need (0 = 0 ∧ 1 = ([(at_.getD (Int.toNat (to.getD i tI.dflt)) tI.dflt)]).length) <|
        .need ((at_.length + ([(at_.getD (Int.toNat (to.getD i tI.dflt)) tI.dflt)]).length) * 8 ≤ 140737488355328) <|
        .need (inR .i64 (((i : Nat) : Int) + 1)) <|
        .stop (lp (bodyOf Tryd.f22) 0) (.junk :: .c (.ro tI to) :: .c (.ptr 0 0 0 0) :: .junk :: .c (.ptr 1 0 0 0) :: .junk :: .c (.ptr 2 0 0 0) :: .c (.ptr 3 0 0 0) :: J16 (bCm6 t i)) [.cells 29 (Ty.enc tTrace t), bCm8, .cells 97 [.osl 8 1 (at_ ++ [(at_.getD (Int.toNat (to.getD i tI.dflt)) tI.dflt)]).length, .bool f], (bCm3 t ins), .dead, .ovec 46 tIns ins, (bCm1 t i), .vec 3 tI ([(at_.getD (Int.toNat (to.getD i tI.dflt)) tI.dflt)]), .ovec 3 tI (at_ ++ [(at_.getD (Int.toNat (to.getD i tI.dflt)) tI.dflt)])])
       (.ret (.tup [.agg bCm9, .c (.int .i64 3)]) [.cells 29 (Ty.enc tTrace t), bCm8, .cells 97 [.osl 4 1 at_.length, .bool f], (bCm3 t ins), .ovec 3 tI at_, .ovec 46 tIns ins, (bCm1 t i)]))
      (.ret (.tup [.agg bCm9, .c (.int .i64 3)]) [.cells 29 (Ty.enc tTrace t), bCm8, .cells 97 [.osl 4 1 at_.length, .bool f], (bCm3 t ins), .ovec 3 tI at_, .ovec 46 tIns ins, (bCm1 t i)]))))
   (.need ((0 : Int) ≤ ((i : Nat) : Int) ∧ (((i : Nat) : Int) : Int) < (to.length : Int)) <|
    .need (i < to.length) <|
    .ite (decide ((to.getD i tI.dflt) = ((i : Nat) : Int)))
    (.need (at_.length = at_.length) <|
     .need (0 = 0 ∧ 1 = ([((ins.length : Nat) : Int)]).length) <|
     .need ((at_.length + ([((ins.length : Nat) : Int)]).length) * 8 ≤ 140737488355328) <|
     .callH 48 [.c (.ptr 2 0 0 0), .agg [.int .i64 (t.2.2.2.1.getD i tIns.dflt).1, .int .i64 (t.2.2.2.1.getD i tIns.dflt).2.1, .int .i64 (t.2.2.2.1.getD i tIns.dflt).2.2.1, .int .i64 (t.2.2.2.1.getD i tIns.dflt).2.2.2.1, .int .i64 (t.2.2.2.1.getD i tIns.dflt).2.2.2.2.1, .int .i64 (t.2.2.2.1.getD i tIns.dflt).2.2.2.2.2.1, .int .i64 (t.2.2.2.1.getD i tIns.dflt).2.2.2.2.2.2.1, .int .i64 (t.2.2.2.1.getD i tIns.dflt).2.2.2.2.2.2.2]] [.cells 29 (Ty.enc tTrace t), bCm8, .cells 97 [.osl 8 1 (at_ ++ [((ins.length : Nat) : Int)]).length, .bool f], (bCm5 t lo ins), .dead, .ovec 46 tIns ins, (bCm1 t i), .vec 3 tI ([((ins.length : Nat) : Int)]), .ovec 3 tI (at_ ++ [((ins.length : Nat) : Int)])] (.agg [.int .i64 (cutIns (at_ ++ [((ins.length : Nat) : Int)]) (t.2.2.2.1.getD i tIns.dflt)).1, .int .i64 (cutIns (at_ ++ [((ins.length : Nat) : Int)]) (t.2.2.2.1.getD i tIns.dflt)).2.1, .int .i64 (cutIns (at_ ++ [((ins.length : Nat) : Int)]) (t.2.2.2.1.getD i tIns.dflt)).2.2.1, .int .i64 (cutIns (at_ ++ [((ins.length : Nat) : Int)]) (t.2.2.2.1.getD i tIns.dflt)).2.2.2.1, .int .i64 (cutIns (at_ ++ [((ins.length : Nat) : Int)]) (t.2.2.2.1.getD i tIns.dflt)).2.2.2.2.1, .int .i64 (cutIns (at_ ++ [((ins.length : Nat) : Int)]) (t.2.2.2.1.getD i tIns.dflt)).2.2.2.2.2.1, .int .i64 (cutIns (at_ ++ [((ins.length : Nat) : Int)]) (t.2.2.2.1.getD i tIns.dflt)).2.2.2.2.2.2.1, .int .i64 (cutIns (at_ ++ [((ins.length : Nat) : Int)]) (t.2.2.2.1.getD i tIns.dflt)).2.2.2.2.2.2.2]) [.cells 29 (Ty.enc tTrace t), bCm8, .cells 97 [.osl 8 1 (at_ ++ [((ins.length : Nat) : Int)]).length, .bool (f && cutInsOk (at_ ++ [((ins.length : Nat) : Int)]) (t.2.2.2.1.getD i tIns.dflt))], (bCm5 t lo ins), .dead, .ovec 46 tIns ins, (bCm1 t i), .vec 3 tI ([((ins.length : Nat) : Int)]), .ovec 3 tI (at_ ++ [((ins.length : Nat) : Int)])] [2, 8] <|
     .need (ins.length = ins.length) <|
     .need (0 = 0 ∧ 1 = ([(cutIns (at_ ++ [((ins.length : Nat) : Int)]) (t.2.2.2.1.getD i tIns.dflt))]).length) <|
     .need ((ins.length + ([(cutIns (at_ ++ [((ins.length : Nat) : Int)]) (t.2.2.2.1.getD i tIns.dflt))]).length) * 64 ≤ 140737488355328) <|
     .need (inR .i64 (((i : Nat) : Int) + 1)) <|
     .stop (lp (bodyOf Tryd.f22) 0) (.junk :: .c (.ro tI to) :: .c (.ptr 0 0 0 0) :: .junk :: .c (.ptr 1 0 0 0) :: .junk :: .c (.ptr 2 0 0 0) :: .c (.ptr 3 0 0 0) :: J16 (bCm6 t i)) [.cells 29 (Ty.enc tTrace t), bCm8, .cells 97 [.osl 8 1 (at_ ++ [((ins.length : Nat) : Int)]).length, .bool (f && cutInsOk (at_ ++ [((ins.length : Nat) : Int)]) (t.2.2.2.1.getD i tIns.dflt))], .cells 29 [.int .i64 t.1, .int .i64 t.2.1, .int .i64 lo, .osl 10 8 (ins ++ [(cutIns (at_ ++ [((ins.length : Nat) : Int)]) (t.2.2.2.1.getD i tIns.dflt))]).length, .nilsl, .int .i64 0, .int .i64 0, .nilsl, .nilsl, .int .i64 0, .int .i64 0, .nilsl, .nilsl], .dead, .dead, (bCm1 t i), .vec 3 tI ([((ins.length : Nat) : Int)]), .ovec 3 tI (at_ ++ [((ins.length : Nat) : Int)]), .vec 46 tIns ([(cutIns (at_ ++ [((ins.length : Nat) : Int)]) (t.2.2.2.1.getD i tIns.dflt))]), .ovec 46 tIns (ins ++ [(cutIns (at_ ++ [((ins.length : Nat) : Int)]) (t.2.2.2.1.getD i tIns.dflt))])])
    (.ite (decide ((to.getD i tI.dflt) = (-1)))
     (.need (at_.length = at_.length) <|
      .need (0 = 0 ∧ 1 = ([(-1)]).length) <|
      .need ((at_.length + ([(-1)]).length) * 8 ≤ 140737488355328) <|
      .need (inR .i64 (((i : Nat) : Int) + 1)) <|
      .stop (lp (bodyOf Tryd.f22) 0) (.junk :: .c (.ro tI to) :: .c (.ptr 0 0 0 0) :: .junk :: .c (.ptr 1 0 0 0) :: .junk :: .c (.ptr 2 0 0 0) :: .c (.ptr 3 0 0 0) :: J16 (bCm6 t i)) [.cells 29 (Ty.enc tTrace t), bCm8, .cells 97 [.osl 8 1 (at_ ++ [(-1)]).length, .bool f], (bCm5 t lo ins), .dead, .ovec 46 tIns ins, (bCm1 t i), .vec 3 tI ([(-1)]), .ovec 3 tI (at_ ++ [(-1)])])
     (.ite (decide ((0 : Int) ≤ (to.getD i tI.dflt)))
      (.ite (decide ((to.getD i tI.dflt) < ((i : Nat) : Int)))
       (.need ((0 : Int) ≤ (to.getD i tI.dflt) ∧ ((to.getD i tI.dflt) : Int) < ((at_.length : Nat) : Int)) <|
        .need ((Int.toNat (to.getD i tI.dflt)) < at_.length) <|
        .need (at_.length = at_.length) <|
        .need (0 = 0 ∧ 1 = ([(at_.getD (Int.toNat (to.getD i tI.dflt)) tI.dflt)]).length) <|
        .need ((at_.length + ([(at_.getD (Int.toNat (to.getD i tI.dflt)) tI.dflt)]).length) * 8 ≤ 140737488355328) <|
        .need (inR .i64 (((i : Nat) : Int) + 1)) <|
        .stop (lp (bodyOf Tryd.f22) 0) (.junk :: .c (.ro tI to) :: .c (.ptr 0 0 0 0) :: .junk :: .c (.ptr 1 0 0 0) :: .junk :: .c (.ptr 2 0 0 0) :: .c (.ptr 3 0 0 0) :: J16 (bCm6 t i)) [.cells 29 (Ty.enc tTrace t), bCm8, .cells 97 [.osl 8 1 (at_ ++ [(at_.getD (Int.toNat (to.getD i tI.dflt)) tI.dflt)]).length, .bool f], (bCm5 t lo ins), .dead, .ovec 46 tIns ins, (bCm1 t i), .vec 3 tI ([(at_.getD (Int.toNat (to.getD i tI.dflt)) tI.dflt)]), .ovec 3 tI (at_ ++ [(at_.getD (Int.toNat (to.getD i tI.dflt)) tI.dflt)])])
       (.ret (.tup [.agg bCm9, .c (.int .i64 3)]) [.cells 29 (Ty.enc tTrace t), bCm8, .cells 97 [.osl 4 1 at_.length, .bool f], (bCm5 t lo ins), .ovec 3 tI at_, .ovec 46 tIns ins, (bCm1 t i)]))
      (.ret (.tup [.agg bCm9, .c (.int .i64 3)]) [.cells 29 (Ty.enc tTrace t), bCm8, .cells 97 [.osl 4 1 at_.length, .bool f], (bCm5 t lo ins), .ovec 3 tI at_, .ovec 46 tIns ins, (bCm1 t i)])))))
  (.ite (decide ((t.2.2.2.1.length : Int) ≤ t.2.2.1))
   (.ite (decide (t.2.2.1 ≤ 0))
    (.stop (rg (bodyOf Tryd.f22) 24) (.junk :: .c (.ro tI to) :: .c (.ptr 0 0 0 0) :: .junk :: .c (.ptr 1 0 0 0) :: .junk :: .c (.ptr 2 0 0 0) :: .c (.ptr 3 0 0 0) :: J16 (bCm7 t i)) [.cells 29 (Ty.enc tTrace t), bCm8, .cells 97 [.osl 4 1 at_.length, .bool f], .cells 29 [.int .i64 t.1, .int .i64 t.2.1, .int .i64 0, .osl 5 8 ins.length, .nilsl, .int .i64 0, .int .i64 0, .nilsl, .nilsl, .int .i64 0, .int .i64 0, .nilsl, .nilsl], .ovec 3 tI at_, .ovec 46 tIns ins])
    (.stop (rg (bodyOf Tryd.f22) 24) (.junk :: .c (.ro tI to) :: .c (.ptr 0 0 0 0) :: .junk :: .c (.ptr 1 0 0 0) :: .junk :: .c (.ptr 2 0 0 0) :: .c (.ptr 3 0 0 0) :: J16 (bCm7 t i)) [.cells 29 (Ty.enc tTrace t), bCm8, .cells 97 [.osl 4 1 at_.length, .bool f], (bCm3 t ins), .ovec 3 tI at_, .ovec 46 tIns ins]))
   (.ite (decide (t.2.2.1 ≤ 0))
    (.stop (rg (bodyOf Tryd.f22) 24) (.junk :: .c (.ro tI to) :: .c (.ptr 0 0 0 0) :: .junk :: .c (.ptr 1 0 0 0) :: .junk :: .c (.ptr 2 0 0 0) :: .c (.ptr 3 0 0 0) :: J16 (bCm7 t i)) [.cells 29 (Ty.enc tTrace t), bCm8, .cells 97 [.osl 4 1 at_.length, .bool f], .cells 29 [.int .i64 t.1, .int .i64 t.2.1, .int .i64 0, .osl 5 8 ins.length, .nilsl, .int .i64 0, .int .i64 0, .nilsl, .nilsl, .int .i64 0, .int .i64 0, .nilsl, .nilsl], .ovec 3 tI at_, .ovec 46 tIns ins])
    (.stop (rg (bodyOf Tryd.f22) 24) (.junk :: .c (.ro tI to) :: .c (.ptr 0 0 0 0) :: .junk :: .c (.ptr 1 0 0 0) :: .junk :: .c (.ptr 2 0 0 0) :: .c (.ptr 3 0 0 0) :: J16 (bCm7 t i)) [.cells 29 (Ty.enc tTrace t), bCm8, .cells 97 [.osl 4 1 at_.length, .bool f], (bCm5 t lo ins), .ovec 3 tI at_, .ovec 46 tIns ins])))
theorem cut_l0_R_ok (t : ETrace) (to : List Int) (i : Nat) (f : Bool) (lo : Int) (at_ : List Int) (ins : List EIns) : aRound Tryd.prog oc23 Tryd.f22 cut_lv 3000 (lp (bodyOf Tryd.f22) 0) (.junk :: .c (.ro tI to) :: .c (.ptr 0 0 0 0) :: .junk :: .c (.ptr 1 0 0 0) :: .junk :: .c (.ptr 2 0 0 0) :: .c (.ptr 3 0 0 0) :: J16 (bCm7 t i)) [.cells 29 (Ty.enc tTrace t), bCm8, .cells 97 [.osl 4 1 at_.length, .bool f], (bCm5 t lo ins), .ovec 3 tI at_, .ovec 46 tIns ins] = cut_l0_R t to i f lo at_ ins := by kernel_rfl
noncomputable def cut_r24_R (t : ETrace) (to : List Int) (f : Bool) (lo : Int) (at_ : List Int) (ins : List EIns) : Tree :=
  .stop (lp (bodyOf Tryd.f22) 1) (J2 (.c (.ptr 0 0 0 0) :: .junk :: .c (.ptr 1 0 0 0) :: .junk :: .c (.ptr 2 0 0 0) :: .c (.ptr 3 0 0 0) :: J32 (J32 (J32 (J16 (J4 (.c (.ro tExit t.2.2.2.2.1) :: .c (.int .i64 (t.2.2.2.2.1.length : Int)) :: .c (.int .i64 0) :: J16 (J8 (J4 (.junk :: [])))))))))) [.cells 29 (Ty.enc tTrace t), bCm8, .cells 97 [.osl 4 1 at_.length, .bool f], (bCm5 t lo ins), .ovec 3 tI at_, .ovec 46 tIns ins]
theorem cut_r24_R_ok (t : ETrace) (to : List Int) (f : Bool) (lo : Int) (at_ : List Int) (ins : List EIns) : aRound Tryd.prog oc23 Tryd.f22 cut_lv 3000 (rg (bodyOf Tryd.f22) 24) (J2 (.c (.ptr 0 0 0 0) :: .junk :: .c (.ptr 1 0 0 0) :: .junk :: .c (.ptr 2 0 0 0) :: .c (.ptr 3 0 0 0) :: J32 (J32 (J32 (J32 (J16 (J4 ([])))))))) [.cells 29 (Ty.enc tTrace t), bCm8, .cells 97 [.osl 4 1 at_.length, .bool f], (bCm5 t lo ins), .ovec 3 tI at_, .ovec 46 tIns ins] = cut_r24_R t to f lo at_ ins := by kernel_rfl
abbrev bCm0 (t : ETrace) (lo : Int) (ins : List EIns) (xs : List EExit) (at_ : List Int) : AB := .cells 29 [.int .i64 t.1, .int .i64 t.2.1, .int .i64 lo, .osl 5 8 ins.length, .osl 6 4 xs.length, .int .i64 (cutExit at_ t.2.2.2.2.2.1).1, .int .i64 (cutExit at_ t.2.2.2.2.2.1).2.1, .ro tVal (cutExit at_ t.2.2.2.2.2.1).2.2.1, .ro tMake (cutExit at_ t.2.2.2.2.2.1).2.2.2, .int .i64 (cutExit at_ t.2.2.2.2.2.2).1, .int .i64 (cutExit at_ t.2.2.2.2.2.2).2.1, .ro tVal (cutExit at_ t.2.2.2.2.2.2).2.2.1, .ro tMake (cutExit at_ t.2.2.2.2.2.2).2.2.2]
abbrev bCm2 (t : ETrace) (k : Nat) : AB := .cells 27 [.int .i64 (t.2.2.2.2.1.getD k tExit.dflt).1, .int .i64 (t.2.2.2.2.1.getD k tExit.dflt).2.1, .ro tVal (t.2.2.2.2.1.getD k tExit.dflt).2.2.1, .ro tMake (t.2.2.2.2.1.getD k tExit.dflt).2.2.2]
abbrev bCm4 (t : ETrace) (lo : Int) (ins : List EIns) (xs : List EExit) : AB := .cells 29 [.int .i64 t.1, .int .i64 t.2.1, .int .i64 lo, .osl 5 8 ins.length, .osl 6 4 xs.length, .int .i64 0, .int .i64 0, .nilsl, .nilsl, .int .i64 0, .int .i64 0, .nilsl, .nilsl]
noncomputable def cut_l1_R (t : ETrace) (to : List Int) (k : Nat) (f : Bool) (lo : Int) (at_ : List Int) (ins : List EIns) (xs : List EExit) : Tree :=
  .ite (decide (((k : Nat) : Int) < (t.2.2.2.2.1.length : Int)))
  (.need ((0 : Int) ≤ ((k : Nat) : Int) ∧ (((k : Nat) : Int) : Int) < (t.2.2.2.2.1.length : Int)) <|
   .need (k < t.2.2.2.2.1.length) <|
   .callH 49 [.c (.ptr 2 0 0 0), .agg [.int .i64 (t.2.2.2.2.1.getD k tExit.dflt).1, .int .i64 (t.2.2.2.2.1.getD k tExit.dflt).2.1, .ro tVal (t.2.2.2.2.1.getD k tExit.dflt).2.2.1, .ro tMake (t.2.2.2.2.1.getD k tExit.dflt).2.2.2]] [.cells 29 (Ty.enc tTrace t), bCm8, .cells 97 [.osl 4 1 at_.length, .bool f], (bCm4 t lo ins xs), .ovec 3 tI at_, .ovec 46 tIns ins, .ovec 27 tExit xs, (bCm2 t k)] (.agg [.int .i64 (cutExit at_ (t.2.2.2.2.1.getD k tExit.dflt)).1, .int .i64 (cutExit at_ (t.2.2.2.2.1.getD k tExit.dflt)).2.1, .ro tVal (cutExit at_ (t.2.2.2.2.1.getD k tExit.dflt)).2.2.1, .ro tMake (cutExit at_ (t.2.2.2.2.1.getD k tExit.dflt)).2.2.2]) [.cells 29 (Ty.enc tTrace t), bCm8, .cells 97 [.osl 4 1 at_.length, .bool (f && cutExitOk at_ (t.2.2.2.2.1.getD k tExit.dflt))], (bCm4 t lo ins xs), .ovec 3 tI at_, .ovec 46 tIns ins, .ovec 27 tExit xs, (bCm2 t k)] [2, 4] <|
   .need (xs.length = xs.length) <|
   .need (0 = 0 ∧ 1 = ([(cutExit at_ (t.2.2.2.2.1.getD k tExit.dflt))]).length) <|
   .need ((xs.length + ([(cutExit at_ (t.2.2.2.2.1.getD k tExit.dflt))]).length) * 64 ≤ 140737488355328) <|
   .need (inR .i64 (((k : Nat) : Int) + 1)) <|
   .stop (lp (bodyOf Tryd.f22) 1) (J2 (.c (.ptr 0 0 0 0) :: .junk :: .c (.ptr 1 0 0 0) :: .junk :: .c (.ptr 2 0 0 0) :: .c (.ptr 3 0 0 0) :: J32 (J32 (J32 (J16 (J4 (.c (.ro tExit t.2.2.2.2.1) :: .c (.int .i64 (t.2.2.2.2.1.length : Int)) :: .c (.int .i64 (((k : Nat) : Int) + 1)) :: J16 (J8 (J4 (.junk :: [])))))))))) [.cells 29 (Ty.enc tTrace t), bCm8, .cells 97 [.osl 4 1 at_.length, .bool (f && cutExitOk at_ (t.2.2.2.2.1.getD k tExit.dflt))], .cells 29 [.int .i64 t.1, .int .i64 t.2.1, .int .i64 lo, .osl 5 8 ins.length, .osl 9 4 (xs ++ [(cutExit at_ (t.2.2.2.2.1.getD k tExit.dflt))]).length, .int .i64 0, .int .i64 0, .nilsl, .nilsl, .int .i64 0, .int .i64 0, .nilsl, .nilsl], .ovec 3 tI at_, .ovec 46 tIns ins, .dead, (bCm2 t k), .vec 27 tExit ([(cutExit at_ (t.2.2.2.2.1.getD k tExit.dflt))]), .ovec 27 tExit (xs ++ [(cutExit at_ (t.2.2.2.2.1.getD k tExit.dflt))])])
  (.callH 49 [.c (.ptr 2 0 0 0), .agg [.int .i64 t.2.2.2.2.2.1.1, .int .i64 t.2.2.2.2.2.1.2.1, .ro tVal t.2.2.2.2.2.1.2.2.1, .ro tMake t.2.2.2.2.2.1.2.2.2]] [.cells 29 (Ty.enc tTrace t), bCm8, .cells 97 [.osl 4 1 at_.length, .bool f], (bCm4 t lo ins xs), .ovec 3 tI at_, .ovec 46 tIns ins, .ovec 27 tExit xs] (.agg [.int .i64 (cutExit at_ t.2.2.2.2.2.1).1, .int .i64 (cutExit at_ t.2.2.2.2.2.1).2.1, .ro tVal (cutExit at_ t.2.2.2.2.2.1).2.2.1, .ro tMake (cutExit at_ t.2.2.2.2.2.1).2.2.2]) [.cells 29 (Ty.enc tTrace t), bCm8, .cells 97 [.osl 4 1 at_.length, .bool (f && cutExitOk at_ t.2.2.2.2.2.1)], (bCm4 t lo ins xs), .ovec 3 tI at_, .ovec 46 tIns ins, .ovec 27 tExit xs] [2, 4] <|
   .callH 49 [.c (.ptr 2 0 0 0), .agg [.int .i64 t.2.2.2.2.2.2.1, .int .i64 t.2.2.2.2.2.2.2.1, .ro tVal t.2.2.2.2.2.2.2.2.1, .ro tMake t.2.2.2.2.2.2.2.2.2]] [.cells 29 (Ty.enc tTrace t), bCm8, .cells 97 [.osl 4 1 at_.length, .bool (f && cutExitOk at_ t.2.2.2.2.2.1)], (bCm4 t lo ins xs), .ovec 3 tI at_, .ovec 46 tIns ins, .ovec 27 tExit xs] (.agg [.int .i64 (cutExit at_ t.2.2.2.2.2.2).1, .int .i64 (cutExit at_ t.2.2.2.2.2.2).2.1, .ro tVal (cutExit at_ t.2.2.2.2.2.2).2.2.1, .ro tMake (cutExit at_ t.2.2.2.2.2.2).2.2.2]) [.cells 29 (Ty.enc tTrace t), bCm8, .cells 97 [.osl 4 1 at_.length, .bool ((f && cutExitOk at_ t.2.2.2.2.2.1) && cutExitOk at_ t.2.2.2.2.2.2)], (bCm4 t lo ins xs), .ovec 3 tI at_, .ovec 46 tIns ins, .ovec 27 tExit xs] [2, 4] <|
   .ite ((!((f && cutExitOk at_ t.2.2.2.2.2.1) && cutExitOk at_ t.2.2.2.2.2.2)))
   (.ret (.tup [.agg bCm9, .c (.int .i64 3)]) [.cells 29 (Ty.enc tTrace t), bCm8, .cells 97 [.osl 4 1 at_.length, .bool ((f && cutExitOk at_ t.2.2.2.2.2.1) && cutExitOk at_ t.2.2.2.2.2.2)], (bCm0 t lo ins xs at_), .ovec 3 tI at_, .ovec 46 tIns ins, .ovec 27 tExit xs])
   (.ret (.tup [.agg [.int .i64 t.1, .int .i64 t.2.1, .int .i64 lo, .osl 5 8 ins.length, .osl 6 4 xs.length, .int .i64 (cutExit at_ t.2.2.2.2.2.1).1, .int .i64 (cutExit at_ t.2.2.2.2.2.1).2.1, .ro tVal (cutExit at_ t.2.2.2.2.2.1).2.2.1, .ro tMake (cutExit at_ t.2.2.2.2.2.1).2.2.2, .int .i64 (cutExit at_ t.2.2.2.2.2.2).1, .int .i64 (cutExit at_ t.2.2.2.2.2.2).2.1, .ro tVal (cutExit at_ t.2.2.2.2.2.2).2.2.1, .ro tMake (cutExit at_ t.2.2.2.2.2.2).2.2.2], .c (.int .i64 0)]) [.cells 29 (Ty.enc tTrace t), (bCm0 t lo ins xs at_), .cells 97 [.osl 4 1 at_.length, .bool ((f && cutExitOk at_ t.2.2.2.2.2.1) && cutExitOk at_ t.2.2.2.2.2.2)], (bCm0 t lo ins xs at_), .ovec 3 tI at_, .ovec 46 tIns ins, .ovec 27 tExit xs]))
theorem cut_l1_R_ok (t : ETrace) (to : List Int) (k : Nat) (f : Bool) (lo : Int) (at_ : List Int) (ins : List EIns) (xs : List EExit) : aRound Tryd.prog oc23 Tryd.f22 cut_lv 3000 (lp (bodyOf Tryd.f22) 1) (J2 (.c (.ptr 0 0 0 0) :: .junk :: .c (.ptr 1 0 0 0) :: .junk :: .c (.ptr 2 0 0 0) :: .c (.ptr 3 0 0 0) :: J32 (J32 (J32 (J16 (J4 (.c (.ro tExit t.2.2.2.2.1) :: .c (.int .i64 (t.2.2.2.2.1.length : Int)) :: .c (.int .i64 ((k : Nat) : Int)) :: J16 (J8 (J4 (.junk :: [])))))))))) [.cells 29 (Ty.enc tTrace t), bCm8, .cells 97 [.osl 4 1 at_.length, .bool f], (bCm4 t lo ins xs), .ovec 3 tI at_, .ovec 46 tIns ins, .ovec 27 tExit xs] = cut_l1_R t to k f lo at_ ins xs := by kernel_rfl
theorem cut_l1 (t : ETrace) (to : List Int) (k : Nat) (f : Bool) (lo : Int) (at_ : List Int) (ins : List EIns) (xs : List EExit) (hs : traceSm t) (hx : xs.length ≤ k) : Run Tryd.prog 22 (retQ Tryd.prog (.tup [.agg (Ty.enc tTrace ((endF t at_ f lo ins xs k).1)), .c (.int .i64 ((endF t at_ f lo ins xs k).2))])) (lp (bodyOf Tryd.f22) 1) (J2 (.c (.ptr 0 0 0 0) :: .junk :: .c (.ptr 1 0 0 0) :: .junk :: .c (.ptr 2 0 0 0) :: .c (.ptr 3 0 0 0) :: J32 (J32 (J32 (J16 (J4 (.c (.ro tExit t.2.2.2.2.1) :: .c (.int .i64 (t.2.2.2.2.1.length : Int)) :: .c (.int .i64 ((k : Nat) : Int)) :: J16 (J8 (J4 (.junk :: [])))))))))) [.cells 29 (Ty.enc tTrace t), bCm8, .cells 97 [.osl 4 1 at_.length, .bool f], (bCm4 t lo ins xs), .ovec 3 tI at_, .ovec 46 tIns ins, .ovec 27 tExit xs] :=
  Run.roundA oc23 cut_lv 3000 Tryd.func22 mixed (cut_l1_R t to k f lo at_ ins xs) (cut_l1_R_ok t to k f lo at_ ins xs) (by
    unfold cut_l1_R
    refine g_iteD (fun h0 => ?_) (fun h0 => ?_)
    · refine g_need (by omega) ?_
      refine g_need (by omega) ?_
      refine g_callH (AFunH.frameB [2, 4] (cexit_fun at_ f (t.2.2.2.2.1.getD k tExit.dflt) (by exact hs.2.1.2 _ (getD_mem (α := EExit) (Ty.dflt tExit) (by omega)))) rfl rfl rfl rfl rfl rfl rfl) ?_
      refine g_need (rfl) ?_
      refine g_need (⟨rfl, rfl⟩) ?_
      refine g_need (by have q1 := hs.1; have q2 := hs.2.1.1; (try simp only [List.length_cons, List.length_nil]); first | omega | (rw [i64_iff]; omega) | (constructor <;> omega)) ?_
      refine g_need (by have q1 := hs.1; have q2 := hs.2.1.1; (try simp only [List.length_cons, List.length_nil]); first | omega | (rw [i64_iff]; omega) | (constructor <;> omega)) ?_
      refine g_stop (RunN.keep [0, 1, 2, 3, 4, 5, 9] (F2 (true :: false :: true :: false :: true :: true :: F32 (F32 (F32 (F16 (F4 (true :: true :: true :: F16 (F8 (F4 (false :: [])))))))))) n0 (by decide) rfl rfl ?_)
      have ht := cut_l1 t to (k + 1) (f && cutExitOk at_ (t.2.2.2.2.1.getD k tExit.dflt)) lo at_ ins (xs ++ [(cutExit at_ (t.2.2.2.2.1.getD k tExit.dflt))]) hs (by simp; omega); rw [endF_step (by omega)]; exact ht
    · refine g_callH (AFunH.frameB [2, 4] (cexit_fun at_ f t.2.2.2.2.2.1 (by exact hs.2.2.1)) rfl rfl rfl rfl rfl rfl rfl) ?_
      refine g_callH (AFunH.frameB [2, 4] (cexit_fun at_ (f && cutExitOk at_ t.2.2.2.2.2.1) t.2.2.2.2.2.2 (by exact hs.2.2.2)) rfl rfl rfl rfl rfl rfl rfl) ?_
      refine g_iteN (fun h1 => ?_) (fun h1 => ?_)
      · first | rw [endF_t (by omega) (by assumption)] | rw [endF_f (by omega) (by assumption)]
        refine g_rq ?_
        exact g_rl (⟨⟨⟨rfl, rfl⟩, ⟨rfl, rfl⟩, ⟨rfl, rfl⟩, rfl, rfl, ⟨rfl, rfl⟩, ⟨rfl, rfl⟩, rfl, rfl, ⟨rfl, rfl⟩, ⟨rfl, rfl⟩, rfl, rfl, trivial⟩, ⟨rfl, rfl⟩, trivial⟩) rfl
      · first | rw [endF_t (by omega) (by assumption)] | rw [endF_f (by omega) (by assumption)]
        refine g_rq ?_
        refine g_need (rfl) ?_
        refine g_need (rfl) ?_
        exact g_rl (⟨⟨⟨rfl, rfl⟩, ⟨rfl, rfl⟩, ⟨rfl, rfl⟩, ⟨rfl, rfl⟩, ⟨rfl, rfl⟩, ⟨rfl, rfl⟩, ⟨rfl, rfl⟩, ⟨rfl, rfl⟩, ⟨rfl, rfl⟩, ⟨rfl, rfl⟩, ⟨rfl, rfl⟩, ⟨rfl, rfl⟩, ⟨rfl, rfl⟩, trivial⟩, ⟨rfl, rfl⟩, trivial⟩) rfl
    )
  termination_by t.2.2.2.2.1.length - k
  decreasing_by all_goals omega
theorem cut_r24 (t : ETrace) (to : List Int) (f : Bool) (lo : Int) (at_ : List Int) (ins : List EIns) (hs : traceSm t) : Run Tryd.prog 22 (retQ Tryd.prog (.tup [.agg (Ty.enc tTrace ((cutEnd t at_ f lo ins).1)), .c (.int .i64 ((cutEnd t at_ f lo ins).2))])) (rg (bodyOf Tryd.f22) 24) (J2 (.c (.ptr 0 0 0 0) :: .junk :: .c (.ptr 1 0 0 0) :: .junk :: .c (.ptr 2 0 0 0) :: .c (.ptr 3 0 0 0) :: J32 (J32 (J32 (J32 (J16 (J4 ([])))))))) [.cells 29 (Ty.enc tTrace t), bCm8, .cells 97 [.osl 4 1 at_.length, .bool f], (bCm5 t lo ins), .ovec 3 tI at_, .ovec 46 tIns ins] :=
  Run.roundA oc23 cut_lv 3000 Tryd.func22 mixed (cut_r24_R t to f lo at_ ins) (cut_r24_R_ok t to f lo at_ ins) (by
    unfold cut_r24_R
    refine g_stop (RunN.keep [0, 1, 2, 3, 4, 5, 1006] (F2 (true :: false :: true :: false :: true :: true :: F32 (F32 (F32 (F16 (F4 (true :: true :: true :: F16 (F8 (F4 (false :: [])))))))))) n0 (by decide) rfl rfl ?_)
    refine RunN.less (env' := (J2 (.c (.ptr 0 0 0 0) :: .junk :: .c (.ptr 1 0 0 0) :: .junk :: .c (.ptr 2 0 0 0) :: .c (.ptr 3 0 0 0) :: J32 (J32 (J32 (J16 (J4 (.c (.ro tExit t.2.2.2.2.1) :: .c (.int .i64 (t.2.2.2.2.1.length : Int)) :: .c (.int .i64 ((0 : Nat) : Int)) :: J16 (J8 (J4 (.junk :: []))))))))))) (H' := [.cells 29 (Ty.enc tTrace t), bCm8, .cells 97 [.osl 4 1 at_.length, .bool f], .cells 29 [.int .i64 t.1, .int .i64 t.2.1, .int .i64 lo, .osl 5 8 ins.length, .osl 6 4 0, .int .i64 0, .int .i64 0, .nilsl, .nilsl, .int .i64 0, .int .i64 0, .nilsl, .nilsl], .ovec 3 tI at_, .ovec 46 tIns ins, .ovec 27 tExit ([])]) (leAVs.same rfl) (⟨leB.refl _, leB.refl _, leB.refl _, ⟨rfl, leC.refl _, leC.refl _, leC.refl _, leC.refl _, rfl, leC.refl _, leC.refl _, leC.refl _, leC.refl _, leC.refl _, leC.refl _, leC.refl _, leC.refl _, trivial⟩, leB.refl _, leB.refl _, rfl, trivial⟩) ?_
    exact cut_l1 t to 0 f lo at_ ins ([]) hs (by simp)
    )
theorem cut_l0 (t : ETrace) (to : List Int) (i : Nat) (f : Bool) (lo : Int) (at_ : List Int) (ins : List EIns) (hs : traceSm t) (hl : to.length = t.2.2.2.1.length) (ha : at_.length = i) (hi : ins.length ≤ i) : Run Tryd.prog 22 (retQ Tryd.prog (.tup [.agg (Ty.enc tTrace ((cutThen t (cutLoop t.2.2.1 i (t.2.2.2.1.drop i) (to.drop i) at_ f lo ins)).1)), .c (.int .i64 ((cutThen t (cutLoop t.2.2.1 i (t.2.2.2.1.drop i) (to.drop i) at_ f lo ins)).2))])) (lp (bodyOf Tryd.f22) 0) (.junk :: .c (.ro tI to) :: .c (.ptr 0 0 0 0) :: .junk :: .c (.ptr 1 0 0 0) :: .junk :: .c (.ptr 2 0 0 0) :: .c (.ptr 3 0 0 0) :: J16 (bCm7 t i)) [.cells 29 (Ty.enc tTrace t), bCm8, .cells 97 [.osl 4 1 at_.length, .bool f], (bCm5 t lo ins), .ovec 3 tI at_, .ovec 46 tIns ins] :=
  Run.roundA oc23 cut_lv 3000 Tryd.func22 mixed (cut_l0_R t to i f lo at_ ins) (cut_l0_R_ok t to i f lo at_ ins) (by
    unfold cut_l0_R
    refine g_iteD (fun h0 => ?_) (fun h0 => ?_)
    · refine g_need (by omega) ?_
      refine g_need (by omega) ?_
      refine g_iteD (fun h1 => ?_) (fun h1 => ?_)
      · refine g_need (by omega) ?_
        refine g_need (by omega) ?_
        refine g_iteD (fun h2 => ?_) (fun h2 => ?_)
        · refine g_need (rfl) ?_
          refine g_need (⟨rfl, rfl⟩) ?_
          refine g_need (by have q1 := hs.1; have q2 := hs.2.1.1; (try simp only [List.length_cons, List.length_nil]); first | omega | (rw [i64_iff]; omega) | (constructor <;> omega)) ?_
          refine g_callH (AFunH.frameB [2, 8] (cins_fun (at_ ++ [((ins.length : Nat) : Int)]) f (t.2.2.2.1.getD i tIns.dflt)) rfl rfl rfl rfl rfl rfl rfl) ?_
          refine g_need (rfl) ?_
          refine g_need (⟨rfl, rfl⟩) ?_
          refine g_need (by have q1 := hs.1; have q2 := hs.2.1.1; (try simp only [List.length_cons, List.length_nil]); first | omega | (rw [i64_iff]; omega) | (constructor <;> omega)) ?_
          refine g_need (by have q1 := hs.1; have q2 := hs.2.1.1; (try simp only [List.length_cons, List.length_nil]); first | omega | (rw [i64_iff]; omega) | (constructor <;> omega)) ?_
          refine g_stop (RunN.keep [0, 1, 2, 3, 8, 10] (false :: true :: true :: false :: true :: false :: true :: true :: F16 (F4 (true :: true :: true :: F32 (F32 (F32 (F16 (F8 (F4 (false :: []))))))))) n0 (by decide) rfl rfl ?_)
          have ht := cut_l0 t to (i + 1) (f && cutInsOk (at_ ++ [((ins.length : Nat) : Int)]) (t.2.2.2.1.getD i tIns.dflt)) ((ins.length : Nat) : Int) (at_ ++ [((ins.length : Nat) : Int)]) (ins ++ [(cutIns (at_ ++ [((ins.length : Nat) : Int)]) (t.2.2.2.1.getD i tIns.dflt))]) hs hl (by simp; omega) (by simp; omega); rw [dropCons (α := EIns) (Ty.dflt tIns) (by omega : i < t.2.2.2.1.length), dropCons (α := Int) (Ty.dflt tI) (by omega : i < to.length), cutLoop]; (first | rw [if_pos h2] | rw [if_neg h2, if_pos h3] | rw [if_neg h2, if_neg h3, if_pos h4, if_pos h5]); (first | rw [if_pos h1] | rw [if_neg h1]); exact ht
        · refine g_iteD (fun h3 => ?_) (fun h3 => ?_)
          · refine g_need (rfl) ?_
            refine g_need (⟨rfl, rfl⟩) ?_
            refine g_need (by have q1 := hs.1; have q2 := hs.2.1.1; (try simp only [List.length_cons, List.length_nil]); first | omega | (rw [i64_iff]; omega) | (constructor <;> omega)) ?_
            refine g_need (by have q1 := hs.1; have q2 := hs.2.1.1; (try simp only [List.length_cons, List.length_nil]); first | omega | (rw [i64_iff]; omega) | (constructor <;> omega)) ?_
            refine g_stop (RunN.keep [0, 1, 2, 3, 8, 5] (false :: true :: true :: false :: true :: false :: true :: true :: F16 (F4 (true :: true :: true :: F32 (F32 (F32 (F16 (F8 (F4 (false :: []))))))))) n0 (by decide) rfl rfl ?_)
            have ht := cut_l0 t to (i + 1) f ((ins.length : Nat) : Int) (at_ ++ [(-1)]) ins hs hl (by simp; omega) (by omega); rw [dropCons (α := EIns) (Ty.dflt tIns) (by omega : i < t.2.2.2.1.length), dropCons (α := Int) (Ty.dflt tI) (by omega : i < to.length), cutLoop]; (first | rw [if_pos h2] | rw [if_neg h2, if_pos h3] | rw [if_neg h2, if_neg h3, if_pos h4, if_pos h5]); (first | rw [if_pos h1] | rw [if_neg h1]); exact ht
          · refine g_iteD (fun h4 => ?_) (fun h4 => ?_)
            · refine g_iteD (fun h5 => ?_) (fun h5 => ?_)
              · refine g_need (by omega) ?_
                refine g_need (by omega) ?_
                refine g_need (rfl) ?_
                refine g_need (⟨rfl, rfl⟩) ?_
                refine g_need (by have q1 := hs.1; have q2 := hs.2.1.1; (try simp only [List.length_cons, List.length_nil]); first | omega | (rw [i64_iff]; omega) | (constructor <;> omega)) ?_
                refine g_need (by have q1 := hs.1; have q2 := hs.2.1.1; (try simp only [List.length_cons, List.length_nil]); first | omega | (rw [i64_iff]; omega) | (constructor <;> omega)) ?_
                refine g_stop (RunN.keep [0, 1, 2, 3, 8, 5] (false :: true :: true :: false :: true :: false :: true :: true :: F16 (F4 (true :: true :: true :: F32 (F32 (F32 (F16 (F8 (F4 (false :: []))))))))) n0 (by decide) rfl rfl ?_)
                have ht := cut_l0 t to (i + 1) f ((ins.length : Nat) : Int) (at_ ++ [(at_.getD (Int.toNat (to.getD i tI.dflt)) tI.dflt)]) ins hs hl (by simp; omega) (by omega); rw [dropCons (α := EIns) (Ty.dflt tIns) (by omega : i < t.2.2.2.1.length), dropCons (α := Int) (Ty.dflt tI) (by omega : i < to.length), cutLoop]; (first | rw [if_pos h2] | rw [if_neg h2, if_pos h3] | rw [if_neg h2, if_neg h3, if_pos h4, if_pos h5]); (first | rw [if_pos h1] | rw [if_neg h1]); exact ht
              · rw [dropCons (α := EIns) (Ty.dflt tIns) (by omega : i < t.2.2.2.1.length), dropCons (α := Int) (Ty.dflt tI) (by omega : i < to.length), cutLoop]; first | rw [if_neg h2, if_neg h3, if_neg h4] | rw [if_neg h2, if_neg h3, if_pos h4, if_neg h5]
                refine g_rq ?_
                exact g_rl (⟨⟨⟨rfl, rfl⟩, ⟨rfl, rfl⟩, ⟨rfl, rfl⟩, rfl, rfl, ⟨rfl, rfl⟩, ⟨rfl, rfl⟩, rfl, rfl, ⟨rfl, rfl⟩, ⟨rfl, rfl⟩, rfl, rfl, trivial⟩, ⟨rfl, rfl⟩, trivial⟩) rfl
            · rw [dropCons (α := EIns) (Ty.dflt tIns) (by omega : i < t.2.2.2.1.length), dropCons (α := Int) (Ty.dflt tI) (by omega : i < to.length), cutLoop]; first | rw [if_neg h2, if_neg h3, if_neg h4] | rw [if_neg h2, if_neg h3, if_pos h4, if_neg h5]
              refine g_rq ?_
              exact g_rl (⟨⟨⟨rfl, rfl⟩, ⟨rfl, rfl⟩, ⟨rfl, rfl⟩, rfl, rfl, ⟨rfl, rfl⟩, ⟨rfl, rfl⟩, rfl, rfl, ⟨rfl, rfl⟩, ⟨rfl, rfl⟩, rfl, rfl, trivial⟩, ⟨rfl, rfl⟩, trivial⟩) rfl
      · refine g_need (by omega) ?_
        refine g_need (by omega) ?_
        refine g_iteD (fun h2 => ?_) (fun h2 => ?_)
        · refine g_need (rfl) ?_
          refine g_need (⟨rfl, rfl⟩) ?_
          refine g_need (by have q1 := hs.1; have q2 := hs.2.1.1; (try simp only [List.length_cons, List.length_nil]); first | omega | (rw [i64_iff]; omega) | (constructor <;> omega)) ?_
          refine g_callH (AFunH.frameB [2, 8] (cins_fun (at_ ++ [((ins.length : Nat) : Int)]) f (t.2.2.2.1.getD i tIns.dflt)) rfl rfl rfl rfl rfl rfl rfl) ?_
          refine g_need (rfl) ?_
          refine g_need (⟨rfl, rfl⟩) ?_
          refine g_need (by have q1 := hs.1; have q2 := hs.2.1.1; (try simp only [List.length_cons, List.length_nil]); first | omega | (rw [i64_iff]; omega) | (constructor <;> omega)) ?_
          refine g_need (by have q1 := hs.1; have q2 := hs.2.1.1; (try simp only [List.length_cons, List.length_nil]); first | omega | (rw [i64_iff]; omega) | (constructor <;> omega)) ?_
          refine g_stop (RunN.keep [0, 1, 2, 3, 8, 10] (false :: true :: true :: false :: true :: false :: true :: true :: F16 (F4 (true :: true :: true :: F32 (F32 (F32 (F16 (F8 (F4 (false :: []))))))))) n0 (by decide) rfl rfl ?_)
          have ht := cut_l0 t to (i + 1) (f && cutInsOk (at_ ++ [((ins.length : Nat) : Int)]) (t.2.2.2.1.getD i tIns.dflt)) lo (at_ ++ [((ins.length : Nat) : Int)]) (ins ++ [(cutIns (at_ ++ [((ins.length : Nat) : Int)]) (t.2.2.2.1.getD i tIns.dflt))]) hs hl (by simp; omega) (by simp; omega); rw [dropCons (α := EIns) (Ty.dflt tIns) (by omega : i < t.2.2.2.1.length), dropCons (α := Int) (Ty.dflt tI) (by omega : i < to.length), cutLoop]; (first | rw [if_pos h2] | rw [if_neg h2, if_pos h3] | rw [if_neg h2, if_neg h3, if_pos h4, if_pos h5]); (first | rw [if_pos h1] | rw [if_neg h1]); exact ht
        · refine g_iteD (fun h3 => ?_) (fun h3 => ?_)
          · refine g_need (rfl) ?_
            refine g_need (⟨rfl, rfl⟩) ?_
            refine g_need (by have q1 := hs.1; have q2 := hs.2.1.1; (try simp only [List.length_cons, List.length_nil]); first | omega | (rw [i64_iff]; omega) | (constructor <;> omega)) ?_
            refine g_need (by have q1 := hs.1; have q2 := hs.2.1.1; (try simp only [List.length_cons, List.length_nil]); first | omega | (rw [i64_iff]; omega) | (constructor <;> omega)) ?_
            refine g_stop (RunN.keep [0, 1, 2, 3, 8, 5] (false :: true :: true :: false :: true :: false :: true :: true :: F16 (F4 (true :: true :: true :: F32 (F32 (F32 (F16 (F8 (F4 (false :: []))))))))) n0 (by decide) rfl rfl ?_)
            have ht := cut_l0 t to (i + 1) f lo (at_ ++ [(-1)]) ins hs hl (by simp; omega) (by omega); rw [dropCons (α := EIns) (Ty.dflt tIns) (by omega : i < t.2.2.2.1.length), dropCons (α := Int) (Ty.dflt tI) (by omega : i < to.length), cutLoop]; (first | rw [if_pos h2] | rw [if_neg h2, if_pos h3] | rw [if_neg h2, if_neg h3, if_pos h4, if_pos h5]); (first | rw [if_pos h1] | rw [if_neg h1]); exact ht
          · refine g_iteD (fun h4 => ?_) (fun h4 => ?_)
            · refine g_iteD (fun h5 => ?_) (fun h5 => ?_)
              · refine g_need (by omega) ?_
                refine g_need (by omega) ?_
                refine g_need (rfl) ?_
                refine g_need (⟨rfl, rfl⟩) ?_
                refine g_need (by have q1 := hs.1; have q2 := hs.2.1.1; (try simp only [List.length_cons, List.length_nil]); first | omega | (rw [i64_iff]; omega) | (constructor <;> omega)) ?_
                refine g_need (by have q1 := hs.1; have q2 := hs.2.1.1; (try simp only [List.length_cons, List.length_nil]); first | omega | (rw [i64_iff]; omega) | (constructor <;> omega)) ?_
                refine g_stop (RunN.keep [0, 1, 2, 3, 8, 5] (false :: true :: true :: false :: true :: false :: true :: true :: F16 (F4 (true :: true :: true :: F32 (F32 (F32 (F16 (F8 (F4 (false :: []))))))))) n0 (by decide) rfl rfl ?_)
                have ht := cut_l0 t to (i + 1) f lo (at_ ++ [(at_.getD (Int.toNat (to.getD i tI.dflt)) tI.dflt)]) ins hs hl (by simp; omega) (by omega); rw [dropCons (α := EIns) (Ty.dflt tIns) (by omega : i < t.2.2.2.1.length), dropCons (α := Int) (Ty.dflt tI) (by omega : i < to.length), cutLoop]; (first | rw [if_pos h2] | rw [if_neg h2, if_pos h3] | rw [if_neg h2, if_neg h3, if_pos h4, if_pos h5]); (first | rw [if_pos h1] | rw [if_neg h1]); exact ht
              · rw [dropCons (α := EIns) (Ty.dflt tIns) (by omega : i < t.2.2.2.1.length), dropCons (α := Int) (Ty.dflt tI) (by omega : i < to.length), cutLoop]; first | rw [if_neg h2, if_neg h3, if_neg h4] | rw [if_neg h2, if_neg h3, if_pos h4, if_neg h5]
                refine g_rq ?_
                exact g_rl (⟨⟨⟨rfl, rfl⟩, ⟨rfl, rfl⟩, ⟨rfl, rfl⟩, rfl, rfl, ⟨rfl, rfl⟩, ⟨rfl, rfl⟩, rfl, rfl, ⟨rfl, rfl⟩, ⟨rfl, rfl⟩, rfl, rfl, trivial⟩, ⟨rfl, rfl⟩, trivial⟩) rfl
            · rw [dropCons (α := EIns) (Ty.dflt tIns) (by omega : i < t.2.2.2.1.length), dropCons (α := Int) (Ty.dflt tI) (by omega : i < to.length), cutLoop]; first | rw [if_neg h2, if_neg h3, if_neg h4] | rw [if_neg h2, if_neg h3, if_pos h4, if_neg h5]
              refine g_rq ?_
              exact g_rl (⟨⟨⟨rfl, rfl⟩, ⟨rfl, rfl⟩, ⟨rfl, rfl⟩, rfl, rfl, ⟨rfl, rfl⟩, ⟨rfl, rfl⟩, rfl, rfl, ⟨rfl, rfl⟩, ⟨rfl, rfl⟩, rfl, rfl, trivial⟩, ⟨rfl, rfl⟩, trivial⟩) rfl
    · refine g_iteD (fun h1 => ?_) (fun h1 => ?_)
      · refine g_iteD (fun h2 => ?_) (fun h2 => ?_)
        · refine g_stop (RunN.keep [0, 1, 2, 3, 4, 5] (F2 (true :: false :: true :: false :: true :: true :: F32 (F32 (F32 (F32 (F16 (F4 ([])))))))) n0 (by decide) rfl rfl ?_)
          have ht := cut_r24 t to f 0 at_ ins hs; have e : loopAt t lo ins.length = 0 := (by simp only [loopAt, h0, h1, h2, if_true, if_false]); rw [List.drop_eq_nil_of_le (by omega : t.2.2.2.1.length ≤ i)]; simp only [cutLoop, cutThen, e]; exact ht
        · refine g_stop (RunN.keep [0, 1, 2, 3, 4, 5] (F2 (true :: false :: true :: false :: true :: true :: F32 (F32 (F32 (F32 (F16 (F4 ([])))))))) n0 (by decide) rfl rfl ?_)
          have ht := cut_r24 t to f ((ins.length : Nat) : Int) at_ ins hs; have e : loopAt t lo ins.length = ((ins.length : Nat) : Int) := (by simp only [loopAt, h0, h1, h2, if_true, if_false]); rw [List.drop_eq_nil_of_le (by omega : t.2.2.2.1.length ≤ i)]; simp only [cutLoop, cutThen, e]; exact ht
      · refine g_iteD (fun h2 => ?_) (fun h2 => ?_)
        · refine g_stop (RunN.keep [0, 1, 2, 3, 4, 5] (F2 (true :: false :: true :: false :: true :: true :: F32 (F32 (F32 (F32 (F16 (F4 ([])))))))) n0 (by decide) rfl rfl ?_)
          have ht := cut_r24 t to f 0 at_ ins hs; have e : loopAt t lo ins.length = 0 := (by simp only [loopAt, h0, h1, h2, if_true, if_false]); rw [List.drop_eq_nil_of_le (by omega : t.2.2.2.1.length ≤ i)]; simp only [cutLoop, cutThen, e]; exact ht
        · refine g_stop (RunN.keep [0, 1, 2, 3, 4, 5] (F2 (true :: false :: true :: false :: true :: true :: F32 (F32 (F32 (F32 (F16 (F4 ([])))))))) n0 (by decide) rfl rfl ?_)
          have ht := cut_r24 t to f lo at_ ins hs; have e : loopAt t lo ins.length = lo := (by simp only [loopAt, h0, h1, h2, if_true, if_false]); rw [List.drop_eq_nil_of_le (by omega : t.2.2.2.1.length ≤ i)]; simp only [cutLoop, cutThen, e]; exact ht
    )
  termination_by t.2.2.2.1.length - i
  decreasing_by all_goals omega
theorem cut_fun (t : ETrace) (to : List Int) (hs : traceSm t) : AFun Tryd.prog 22 [.agg (tTrace.enc t), .c (.ro tI to)] (.tup [.agg (Ty.enc tTrace ((cutF t to).1)), .c (.int .i64 ((cutF t to).2))]) :=
  AFun.of oc23 cut_lv 3000 Tryd.func22 mixed rfl (by decide) (Nat.le_of_ble_eq_true rfl) _ (cut_T_ok t to) fun hF => by
    unfold cut_T
    refine g_iteND (fun h0 => ?_) (fun h0 => ?_)
    · rw [cutF, if_neg (by omega)]
      refine g_rq ?_
      exact g_rl (⟨⟨⟨rfl, rfl⟩, ⟨rfl, rfl⟩, ⟨rfl, rfl⟩, rfl, rfl, ⟨rfl, rfl⟩, ⟨rfl, rfl⟩, rfl, rfl, ⟨rfl, rfl⟩, ⟨rfl, rfl⟩, rfl, rfl, trivial⟩, ⟨rfl, rfl⟩, trivial⟩) rfl
    · refine g_stop (RunN.keep [0, 1, 2, 3, 1004, 1005] (false :: true :: true :: false :: true :: false :: true :: true :: F16 (F4 (true :: true :: true :: F32 (F32 (F32 (F16 (F8 (F4 (false :: []))))))))) n0 (by decide) rfl rfl ?_)
      refine RunN.less (env' := (.junk :: .c (.ro tI to) :: .c (.ptr 0 0 0 0) :: .junk :: .c (.ptr 1 0 0 0) :: .junk :: .c (.ptr 2 0 0 0) :: .c (.ptr 3 0 0 0) :: J16 (J4 (.c (.ro tIns t.2.2.2.1) :: .c (.int .i64 (t.2.2.2.1.length : Int)) :: .c (.int .i64 ((0 : Nat) : Int)) :: J32 (J32 (J32 (J16 (J8 (J4 (.junk :: [])))))))))) (H' := [.cells 29 (Ty.enc tTrace t), bCm8, .cells 97 [.osl 4 1 0, .bool true], .cells 29 [.int .i64 t.1, .int .i64 t.2.1, .int .i64 0, .osl 5 8 0, .nilsl, .int .i64 0, .int .i64 0, .nilsl, .nilsl, .int .i64 0, .int .i64 0, .nilsl, .nilsl], .ovec 3 tI ([]), .ovec 46 tIns ([])]) (leAVs.same rfl) (⟨leB.refl _, leB.refl _, ⟨rfl, rfl, rfl, trivial⟩, ⟨rfl, leC.refl _, leC.refl _, leC.refl _, rfl, leC.refl _, leC.refl _, leC.refl _, leC.refl _, leC.refl _, leC.refl _, leC.refl _, leC.refl _, leC.refl _, trivial⟩, rfl, rfl, trivial⟩) ?_
      have ht := cut_l0 t to 0 true 0 ([]) ([]) hs (by omega) rfl (by simp); rw [cutF, if_pos (by omega)]; exact ht

end Go.Proofs.YtefkifdhjabdiaaDoor
namespace Go.Proofs.YtefkifdhjabdiaaDoor
set_option linter.unusedVariables false
set_option linter.unusedSimpArgs false
theorem right_small {p : EProg} {t : ETrace} (h : CheckOk p t) {x : EExit} {a : Int} (hx : rightXF (chkOf p t) x a = true) : exitSm x := by
  obtain ⟨_, _, h1, h2⟩ := rightXF_iff.1 hx
  have q1 := setsF_len h1
  obtain ⟨q2, q3⟩ := makesF_len h2
  have := h.regs
  have hn : (chkOf p t).2.2.2.2.1.length ≤ 300 := h.n
  exact ⟨by omega, by omega, fun m hm => Nat.le_trans (q3 m hm) (by omega)⟩
theorem CheckOk.small {p : EProg} {t : ETrace} (h : CheckOk p t) : traceSm t := by
  refine ⟨Nat.le_trans h.n (by omega), ⟨Nat.le_trans h.m (by omega), fun x hx => right_small h (h.exits x hx)⟩, ?_, right_small h h.back.2⟩
  rcases Int.lt_or_eq_of_le h.loop0 with hl | hl
  · exact right_small h (h.turn1 hl).2
  · have := bareF_iff.1 (h.turn0 hl.symm)
    rw [this]
    exact ⟨by simp, by simp, by simp⟩
end Go.Proofs.YtefkifdhjabdiaaDoor
namespace Go.Proofs.YtefkifdhjabdiaaDoor
set_option maxHeartbeats 4000000
set_option linter.unusedVariables false
set_option linter.unusedSimpArgs false
set_option maxRecDepth 100000
theorem getD_at {α : Type} {l : List α} {i j : Nat} {v d : α} (hi : i < l.length) : (l.set i v).getD j d = if j = i then v else l.getD j d := by
  simp only [List.getD_eq_getElem?_getD, List.getElem?_set]
  by_cases h : i = j
  · subst h; simp [hi]
  · simp [h, Ne.symm h]
theorem ask_lt {p : EProg} {t : ETrace} (hc : CheckOk p t) {i : Nat} (hi : i < t.2.2.2.1.length) : ∀ v ∈ askF (t.2.2.2.1.getD i tIns.dflt), 0 ≤ v ∧ v < (i : Int) ∧ tellF (t.2.2.2.1.getD v.toNat tIns.dflt).1 = true := by
  have ex : t.2.2.2.1[i]? = some (t.2.2.2.1.getD i tIns.dflt) := by rw [List.getD_eq_getElem?_getD, List.getElem?_eq_getElem hi]; rfl
  obtain ⟨h1, h2⟩ := hc.ins i _ ex
  unfold formedF at h2
  rw [Bool.and_eq_true] at h2
  intro v hv
  unfold askF at hv
  rw [if_pos h1] at hv
  obtain ⟨q0, q1, _, q2⟩ := valueF_len (List.all_eq_true.1 h2.1 v hv)
  exact ⟨q0, q1, q2⟩
def LawAt (ins : List EIns) (j : Nat) : Prop :=
  ((ins.getD j tIns.dflt).1 = 8 → constB ins (ins.getD j tIns.dflt).2.1 = true → ¬ (unaryV (ins.getD j tIns.dflt).2.2.2.2.1 (constK ins (ins.getD j tIns.dflt).2.1)).2 < 0) ∧
  ((ins.getD j tIns.dflt).1 = 7 → constB ins (ins.getD j tIns.dflt).2.1 = true → constB ins (ins.getD j tIns.dflt).2.2.1 = true → ¬ (binaryV (ins.getD j tIns.dflt).2.2.2.2.1 (constK ins (ins.getD j tIns.dflt).2.1) (constK ins (ins.getD j tIns.dflt).2.2.1)).2 < 0) ∧
  ((ins.getD j tIns.dflt).1 = 4 → constB ins (ins.getD j tIns.dflt).2.1 = true → (constK ins (ins.getD j tIns.dflt).2.1).1 ≠ (ins.getD j tIns.dflt).2.2.2.2.1) ∧
  ((ins.getD j tIns.dflt).1 = 6 → constB ins (ins.getD j tIns.dflt).2.1 = true → constK ins (ins.getD j tIns.dflt).2.1 ≠ (ins.getD j tIns.dflt).2.2.2.2.2.2)
theorem reckI_no {ins : List EIns} {i : Int} {x : EIns} (h : reckB ins x = false) : reckI ins i x = ins := by
  unfold reckB at h
  unfold reckI
  cases hr : reckR ins x with
  | none => rfl
  | some r => rw [hr] at h; exact if_neg (of_decide_eq_false h)
theorem reckI_yes {ins : List EIns} {i : Int} {x : EIns} (h : reckB ins x = true) : ∃ v, reckI ins i x = ins.set (Int.toNat i) (constI v) := by
  unfold reckB at h
  unfold reckI
  cases hr : reckR ins x with
  | none => rw [hr] at h; cases h
  | some r => rw [hr] at h; exact ⟨r.1, if_pos (of_decide_eq_true h)⟩
/-- What one step does to the instructions. -/
theorem one_shape (t : ETrace) (ins : List EIns) (i : Int) : (oneI t ins i = ins ∧ ((oneX ins i).1 = 7 ∨ (oneX ins i).1 = 8 → reckB ins (oneX ins i) = false)) ∨ ∃ v, oneI t ins i = ins.set (Int.toNat i) (constI v) := by
  unfold oneI
  by_cases h7 : (oneX ins i).1 = 7
  · rw [if_pos h7]
    unfold twoI
    cases hr : reckB ins (oneX ins i) with
    | true => rw [if_pos rfl]; exact .inr (reckI_yes hr)
    | false =>
      rw [if_neg (by decide), reckI_no hr]
      split
      · exact .inl ⟨rfl, fun _ => rfl⟩
      · split
        · exact .inr ⟨_, rfl⟩
        · split
          · unfold twiceI
            split
            · exact .inr ⟨_, rfl⟩
            · exact .inl ⟨rfl, fun _ => rfl⟩
          · exact .inl ⟨rfl, fun _ => rfl⟩
  · rw [if_neg h7]
    by_cases h8 : (oneX ins i).1 = 8
    · rw [if_pos h8]
      cases hr : reckB ins (oneX ins i) with
      | true => exact .inr (reckI_yes hr)
      | false => rw [reckI_no hr]; exact .inl ⟨rfl, fun _ => rfl⟩
    · rw [if_neg h8]
      exact .inl ⟨rfl, fun h => h.elim (fun h => absurd h h7) (fun h => absurd h h8)⟩
theorem neutral_in (t : ETrace) (ins : List EIns) (i : Int) (x : EIns) : neutralF t ins i x = x.2.1 ∨ neutralF t ins i x = x.2.2.1 ∨ neutralF t ins i x = -1 := by
  unfold neutralF neut4 neutA neutL
  repeat' split
  all_goals simp
theorem askF7 {x : EIns} (h : x.1 = 7) : askF x = [x.2.1, x.2.2.1] := by unfold askF; rw [h]; rfl
theorem askF8 {x : EIns} (h : x.1 = 8) : askF x = [x.2.1] := by unfold askF; rw [h]; rfl
theorem askF456 {x : EIns} (h : x.1 = 4 ∨ x.1 = 5 ∨ x.1 = 6) : askF x = [x.2.1] := by unfold askF; rcases h with h | h | h <;> rw [h] <;> rfl
theorem askF_const (v : EVal) : askF (constI v) = [] := rfl
/-- What one step does to what stands for what. -/
theorem one_to (t : ETrace) (ins : List EIns) (to : List Int) (i : Int) (G : Int → Prop) (hx : ∀ v ∈ askF (oneX ins i), G v) (hy : ∀ v ∈ askF (oneX ins i), ∀ u ∈ askF (ins.getD (Int.toNat v) tIns.dflt), G u) :
    (oneT t ins to i = to ∧ ((oneX ins i).1 = 4 ∨ (oneX ins i).1 = 5 ∨ (oneX ins i).1 = 6 → gone ins i = false)) ∨ (∃ r, oneT t ins to i = to.set (Int.toNat i) r ∧ (G r ∨ r = -1 ∧ ((oneX ins i).1 = 4 ∨ (oneX ins i).1 = 5 ∨ (oneX ins i).1 = 6))) := by
  unfold oneT
  by_cases h7 : (oneX ins i).1 = 7
  · rw [if_pos h7]
    rw [askF7 h7] at hx
    have no : ¬ ((oneX ins i).1 = 4 ∨ (oneX ins i).1 = 5 ∨ (oneX ins i).1 = 6) := by omega
    unfold twoT
    split
    · exact .inl ⟨rfl, fun h => absurd h no⟩
    · split
      · rename_i hn
        refine .inr ⟨_, rfl, .inl ?_⟩
        rcases neutral_in t (reckI ins i (oneX ins i)) i (oneX ins i) with e | e | e
        · rw [e]; exact hx _ (by simp)
        · rw [e]; exact hx _ (by simp)
        · rw [e] at hn; exact absurd hn (by decide)
      · exact .inl ⟨rfl, fun h => absurd h no⟩
  · rw [if_neg h7]
    by_cases h8 : (oneX ins i).1 = 8
    · rw [if_pos h8]
      have no : ¬ ((oneX ins i).1 = 4 ∨ (oneX ins i).1 = 5 ∨ (oneX ins i).1 = 6) := by omega
      split
      · rename_i hn
        refine .inr ⟨_, rfl, .inl (hy (oneX ins i).2.1 (by rw [askF8 h8]; simp) _ ?_)⟩
        unfold notnot at hn
        have h8' : (ins.getD (Int.toNat (oneX ins i).2.1) tIns.dflt).1 = 8 := by
          revert hn
          repeat' split
          all_goals simp_all
        rw [askF8 h8']
        simp
      · exact .inl ⟨rfl, fun h => absurd h no⟩
    · rw [if_neg h8]
      split
      · rename_i hg
        split
        · exact .inr ⟨_, rfl, .inr ⟨rfl, hg⟩⟩
        · rename_i hn
          exact .inl ⟨rfl, fun _ => by simpa using hn⟩
      · rename_i hg
        exact .inl ⟨rfl, fun h => absurd h hg⟩
theorem law_one {ins : List EIns} {j : Nat} (h1 : (oneX ins (j : Int)).1 = 7 ∨ (oneX ins (j : Int)).1 = 8 → reckB ins (oneX ins (j : Int)) = false) (h2 : (oneX ins (j : Int)).1 = 4 ∨ (oneX ins (j : Int)).1 = 5 ∨ (oneX ins (j : Int)).1 = 6 → gone ins (j : Int) = false) : LawAt ins j := by
  have e : ins.getD j tIns.dflt = oneX ins (j : Int) := by unfold oneX; rw [Int.toNat_natCast]
  unfold LawAt
  rw [e]
  refine ⟨fun h8 ha hn => ?_, fun h7 ha hb hn => ?_, fun h4 ha hn => ?_, fun h6 ha hn => ?_⟩
  · have q := h1 (.inr h8)
    unfold reckB reckR at q
    rw [if_pos ha, if_neg (by omega)] at q
    exact of_decide_eq_false q hn
  · have q := h1 (.inl h7)
    unfold reckB reckR at q
    rw [if_pos ha, if_pos h7, if_pos hb] at q
    exact of_decide_eq_false q hn
  · have q := h2 (.inl h4)
    unfold gone holdsV at q
    rw [if_pos ha, if_pos h4] at q
    exact of_decide_eq_false q hn
  · have q := h2 (.inr (.inr h6))
    unfold gone holdsV at q
    rw [if_pos ha, if_neg (by omega), if_neg (by omega)] at q
    rw [hn] at q
    simp at q
theorem law_const {ins : List EIns} {j : Nat} (h : (ins.getD j tIns.dflt).1 = 2) : LawAt ins j := by
  unfold LawAt
  rw [h]
  exact ⟨fun q => absurd q (by decide), fun q => absurd q (by decide), fun q => absurd q (by decide), fun q => absurd q (by decide)⟩
/-- The law looks at an instruction and at what it asks for alone. -/
theorem law_keep {a b : List EIns} {j : Nat} (hj : b.getD j tIns.dflt = a.getD j tIns.dflt) (ha : ∀ v ∈ askF (a.getD j tIns.dflt), b.getD v.toNat tIns.dflt = a.getD v.toNat tIns.dflt) (h : LawAt a j) : LawAt b j := by
  have cB : ∀ v ∈ askF (a.getD j tIns.dflt), constB b v = constB a v := fun v hv => by unfold constB; rw [ha v hv]
  have cK : ∀ v ∈ askF (a.getD j tIns.dflt), constK b v = constK a v := fun v hv => by unfold constK; rw [ha v hv]
  obtain ⟨h8, h7, h4, h6⟩ := h
  unfold LawAt
  rw [hj]
  refine ⟨fun e => ?_, fun e => ?_, fun e => ?_, fun e => ?_⟩
  · have m : (a.getD j tIns.dflt).2.1 ∈ askF (a.getD j tIns.dflt) := by rw [askF8 e]; simp
    rw [cB _ m, cK _ m]; exact h8 e
  · have m : (a.getD j tIns.dflt).2.1 ∈ askF (a.getD j tIns.dflt) := by rw [askF7 e]; simp
    have m2 : (a.getD j tIns.dflt).2.2.1 ∈ askF (a.getD j tIns.dflt) := by rw [askF7 e]; simp
    rw [cB _ m, cK _ m, cB _ m2, cK _ m2]; exact h7 e
  · have m : (a.getD j tIns.dflt).2.1 ∈ askF (a.getD j tIns.dflt) := by rw [askF456 (.inl e)]; simp
    rw [cB _ m, cK _ m]; exact h4 e
  · have m : (a.getD j tIns.dflt).2.1 ∈ askF (a.getD j tIns.dflt) := by rw [askF456 (.inr (.inr e))]; simp
    rw [cB _ m, cK _ m]; exact h6 e
/-! the loop -/
def putStep (t : ETrace) (i : Nat) (s : List EIns × List Int) : List EIns := s.1.set i (putI (s.1.getD i tIns.dflt) (s.2 ++ [(i : Int)]))
def foldStep (t : ETrace) (i : Nat) (s : List EIns × List Int) : List EIns × List Int := (oneI t (putStep t i s) (i : Int), oneT t (putStep t i s) (s.2 ++ [(i : Int)]) (i : Int))
def foldSt (t : ETrace) : Nat → List EIns × List Int
  | 0 => (t.2.2.2.1, [])
  | i + 1 => foldStep t i (foldSt t i)
structure FoldOk (t : ETrace) (i : Nat) (s : List EIns × List Int) : Prop where
  li : s.1.length = t.2.2.2.1.length
  lt : s.2.length = i
  rest : ∀ j, i ≤ j → s.1.getD j tIns.dflt = t.2.2.2.1.getD j tIns.dflt
  to : ∀ j, j < i → (s.2.getD j tI.dflt = -1 ∧ tellF (t.2.2.2.1.getD j tIns.dflt).1 = false) ∨ (0 ≤ s.2.getD j tI.dflt ∧ s.2.getD j tI.dflt ≤ (j : Int) ∧ s.2.getD (s.2.getD j tI.dflt).toNat tI.dflt = s.2.getD j tI.dflt)
  ins : ∀ j, j < i → ∀ v ∈ askF (s.1.getD j tIns.dflt), 0 ≤ v ∧ v < (j : Int) ∧ s.2.getD v.toNat tI.dflt = v
  law : ∀ j, j < i → s.2.getD j tI.dflt = (j : Int) → LawAt s.1 j
theorem putI_asks {x : EIns} {to : List Int} (ho : (ofF x.1).2 = true) : askF (putI x to) = (askF x).map fun v => to.getD v.toNat tI.dflt := by
  obtain ⟨b0, b3⟩ := ofF_asks x.1
  have en : putN x = (ofF x.1).1.1 := by
    unfold putN askF
    rw [if_pos ho, List.length_take]
    simp
    omega
  have e1 : (putI x to).2.1 = stepP to (ofF x.1).1.1 0 x.2.1 := by rw [← en]; rfl
  have e2 : (putI x to).2.2.1 = stepP to (ofF x.1).1.1 1 x.2.2.1 := by rw [← en]; rfl
  have e3 : (putI x to).2.2.2.1 = stepP to (ofF x.1).1.1 2 x.2.2.2.1 := by rw [← en]; rfl
  have e0 : (putI x to).1 = x.1 := rfl
  unfold askF
  rw [e0, if_pos ho, if_pos ho, e1, e2, e3]
  generalize (ofF x.1).1.1 = n at *
  unfold stepP
  have hn : n = 0 ∨ n = 1 ∨ n = 2 ∨ n = 3 := by omega
  rcases hn with rfl | rfl | rfl | rfl <;> simp
theorem tell456 {x : Int} (h : x = 4 ∨ x = 5 ∨ x = 6) : tellF x = false := by rcases h with h | h | h <;> rw [h] <;> rfl
theorem getD_snoc {l : List Int} {v : Int} {j i : Nat} (hl : l.length = i) : (l ++ [v]).getD j tI.dflt = if j = i then v else l.getD j tI.dflt := by
  simp only [List.getD_eq_getElem?_getD]
  by_cases h : j < l.length
  · rw [List.getElem?_append_left h, if_neg (by omega)]
  · rw [List.getElem?_append_right (by omega)]
    by_cases e : j = i
    · rw [if_pos e, show j - l.length = 0 by omega]; rfl
    · rw [if_neg e, List.getElem?_eq_none (by simp; omega), List.getElem?_eq_none (by omega)]
/-- What stands at a step's place, put. -/
theorem put_x {p : EProg} {t : ETrace} (hc : CheckOk p t) {i : Nat} {s : List EIns × List Int} (h : FoldOk t i s) (hi : i < t.2.2.2.1.length) : oneX (putStep t i s) (i : Int) = putI (t.2.2.2.1.getD i tIns.dflt) (s.2 ++ [(i : Int)]) ∧ (ofF (t.2.2.2.1.getD i tIns.dflt).1).2 = true ∧
    (∀ v ∈ askF (t.2.2.2.1.getD i tIns.dflt), 0 ≤ v ∧ v < (i : Int)) ∧
    ∀ v ∈ askF (oneX (putStep t i s) (i : Int)), 0 ≤ v ∧ v < (i : Int) ∧ s.2.getD v.toNat tI.dflt = v := by
  have ex : t.2.2.2.1[i]? = some (t.2.2.2.1.getD i tIns.dflt) := by rw [List.getD_eq_getElem?_getD, List.getElem?_eq_getElem hi]; rfl
  have ho := (hc.ins i _ ex).1
  have e : oneX (putStep t i s) (i : Int) = putI (t.2.2.2.1.getD i tIns.dflt) (s.2 ++ [(i : Int)]) := by
    unfold oneX putStep
    rw [Int.toNat_natCast, getD_at (by rw [h.li]; exact hi), if_pos rfl, h.rest i (Nat.le_refl _)]
  refine ⟨e, ho, fun v hv => ⟨(ask_lt hc hi v hv).1, (ask_lt hc hi v hv).2.1⟩, fun v hv => ?_⟩
  rw [e, putI_asks ho, List.mem_map] at hv
  obtain ⟨u, hu, rfl⟩ := hv
  obtain ⟨u0, u1, u2⟩ := ask_lt hc hi u hu
  rw [getD_snoc h.lt, if_neg (by omega)]
  rcases h.to u.toNat (by omega) with ⟨_, q⟩ | ⟨q0, q1, q2⟩
  · rw [u2] at q; cases q
  · exact ⟨q0, by omega, q2⟩
theorem fold_step {p : EProg} {t : ETrace} (hc : CheckOk p t) {i : Nat} {s : List EIns × List Int} (h : FoldOk t i s) (hi : i < t.2.2.2.1.length) : FoldOk t (i + 1) (foldStep t i s) := by
  obtain ⟨ex, ho, hlt, hx⟩ := put_x hc h hi
  have hll : (putStep t i s).length = t.2.2.2.1.length := by unfold putStep; rw [List.length_set]; exact h.li
  have hpj : ∀ j, j ≠ i → (putStep t i s).getD j tIns.dflt = s.1.getD j tIns.dflt := fun j hj => by
    unfold putStep
    rw [getD_at (by rw [h.li]; exact hi), if_neg hj]
  have hpi : (putStep t i s).getD i tIns.dflt = oneX (putStep t i s) (i : Int) := by unfold oneX; rw [Int.toNat_natCast]
  have hop : (oneX (putStep t i s) (i : Int)).1 = (t.2.2.2.1.getD i tIns.dflt).1 := by rw [ex]; rfl
  -- the instructions
  have hI : ∀ j, j ≠ i → (oneI t (putStep t i s) (i : Int)).getD j tIns.dflt = s.1.getD j tIns.dflt := fun j hj => by
    rcases one_shape t (putStep t i s) (i : Int) with ⟨e, _⟩ | ⟨v, e⟩
    · rw [e]; exact hpj j hj
    · rw [e, Int.toNat_natCast, getD_at (by rw [hll]; exact hi), if_neg hj]; exact hpj j hj
  have hIl : (oneI t (putStep t i s) (i : Int)).length = t.2.2.2.1.length := by
    rcases one_shape t (putStep t i s) (i : Int) with ⟨e, _⟩ | ⟨v, e⟩
    · rw [e]; exact hll
    · rw [e, List.length_set]; exact hll
  -- what stands for what
  have hT := one_to t (putStep t i s) (s.2 ++ [(i : Int)]) (i : Int) (fun v => 0 ≤ v ∧ v < (i : Int) ∧ s.2.getD v.toNat tI.dflt = v) hx (fun v hv u hu => by
    obtain ⟨v0, v1, _⟩ := hx v hv
    rw [hpj _ (by omega)] at hu
    obtain ⟨u0, u1, u2⟩ := h.ins v.toNat (by omega) u hu
    exact ⟨u0, by omega, u2⟩)
  have hTl : (oneT t (putStep t i s) (s.2 ++ [(i : Int)]) (i : Int)).length = i + 1 := by
    rcases hT with ⟨e, _⟩ | ⟨r, e, _⟩
    · rw [e, List.length_append, h.lt]; rfl
    · rw [e, List.length_set, List.length_append, h.lt]; rfl
  have hTj : ∀ j, j ≠ i → (oneT t (putStep t i s) (s.2 ++ [(i : Int)]) (i : Int)).getD j tI.dflt = s.2.getD j tI.dflt := fun j hj => by
    rcases hT with ⟨e, _⟩ | ⟨r, e, _⟩
    · rw [e, getD_snoc h.lt, if_neg hj]
    · rw [e, Int.toNat_natCast, getD_at (by rw [List.length_append, h.lt]; exact Nat.lt_succ_self _), if_neg hj, getD_snoc h.lt, if_neg hj]
  have hTi : (oneT t (putStep t i s) (s.2 ++ [(i : Int)]) (i : Int)).getD i tI.dflt = (i : Int) ∧ oneT t (putStep t i s) (s.2 ++ [(i : Int)]) (i : Int) = s.2 ++ [(i : Int)] ∧ ((oneX (putStep t i s) (i : Int)).1 = 4 ∨ (oneX (putStep t i s) (i : Int)).1 = 5 ∨ (oneX (putStep t i s) (i : Int)).1 = 6 → gone (putStep t i s) (i : Int) = false) ∨
      ∃ r, (oneT t (putStep t i s) (s.2 ++ [(i : Int)]) (i : Int)).getD i tI.dflt = r ∧ ((0 ≤ r ∧ r < (i : Int) ∧ s.2.getD r.toNat tI.dflt = r) ∨ r = -1 ∧ tellF (t.2.2.2.1.getD i tIns.dflt).1 = false) := by
    rcases hT with ⟨e, q⟩ | ⟨r, e, q⟩
    · exact .inl ⟨by rw [e, getD_snoc h.lt, if_pos rfl], e, q⟩
    · refine .inr ⟨r, ?_, q.imp_right fun ⟨q1, q2⟩ => ⟨q1, tell456 (by rw [← hop]; exact q2)⟩⟩
      rw [e, Int.toNat_natCast, getD_at (by rw [List.length_append, h.lt]; exact Nat.lt_succ_self _), if_pos rfl]
  refine ⟨hIl, hTl, fun j hj => ?_, fun j hj => ?_, fun j hj => ?_, fun j hj => ?_⟩
  · show (oneI t (putStep t i s) (i : Int)).getD j tIns.dflt = _
    rw [hI j (by omega)]; exact h.rest j (by omega)
  · show ((oneT t (putStep t i s) (s.2 ++ [(i : Int)]) (i : Int)).getD j tI.dflt = -1 ∧ _) ∨ (0 ≤ (oneT t (putStep t i s) (s.2 ++ [(i : Int)]) (i : Int)).getD j tI.dflt ∧ (oneT t (putStep t i s) (s.2 ++ [(i : Int)]) (i : Int)).getD j tI.dflt ≤ (j : Int) ∧ (oneT t (putStep t i s) (s.2 ++ [(i : Int)]) (i : Int)).getD ((oneT t (putStep t i s) (s.2 ++ [(i : Int)]) (i : Int)).getD j tI.dflt).toNat tI.dflt = (oneT t (putStep t i s) (s.2 ++ [(i : Int)]) (i : Int)).getD j tI.dflt)
    by_cases e : j = i
    · subst e
      rcases hTi with ⟨q, _⟩ | ⟨r, q, ⟨r0, r1, r2⟩ | ⟨r0, r1⟩⟩
      · right; rw [q]; exact ⟨by omega, Int.le_refl _, by rw [Int.toNat_natCast]; exact q⟩
      · right; rw [q]; exact ⟨r0, by omega, by rw [hTj _ (by omega)]; exact r2⟩
      · left; rw [q]; exact ⟨r0, r1⟩
    · rw [hTj j e]
      rcases h.to j (by omega) with q | ⟨q0, q1, q2⟩
      · exact .inl q
      · exact .inr ⟨q0, q1, by rw [hTj _ (by omega)]; exact q2⟩
  · show ∀ v ∈ askF ((oneI t (putStep t i s) (i : Int)).getD j tIns.dflt), 0 ≤ v ∧ v < (j : Int) ∧ (oneT t (putStep t i s) (s.2 ++ [(i : Int)]) (i : Int)).getD v.toNat tI.dflt = v
    by_cases e : j = i
    · subst e
      rcases one_shape t (putStep t j s) (j : Int) with ⟨e, _⟩ | ⟨v, e⟩
      · rw [e, hpi]
        intro v hv
        obtain ⟨v0, v1, v2⟩ := hx v hv
        exact ⟨v0, v1, by rw [hTj _ (by omega)]; exact v2⟩
      · rw [e, Int.toNat_natCast, getD_at (by rw [hll]; exact hi), if_pos rfl, askF_const]
        intro v hv; cases hv
    · rw [hI j e]
      intro v hv
      obtain ⟨v0, v1, v2⟩ := h.ins j (by omega) v hv
      exact ⟨v0, v1, by rw [hTj _ (by omega)]; exact v2⟩
  · show (oneT t (putStep t i s) (s.2 ++ [(i : Int)]) (i : Int)).getD j tI.dflt = (j : Int) → LawAt (oneI t (putStep t i s) (i : Int)) j
    by_cases e : j = i
    · subst e
      intro hq
      rcases one_shape t (putStep t j s) (j : Int) with ⟨e1, q1⟩ | ⟨v, e1⟩
      · rw [e1]
        rcases hTi with ⟨_, _, q⟩ | ⟨r, q, ⟨r0, r1, r2⟩ | ⟨r0, r1⟩⟩
        · exact law_one q1 q
        · omega
        · omega
      · refine law_const ?_
        rw [e1, Int.toNat_natCast, getD_at (by rw [hll]; exact hi), if_pos rfl]
        rfl
    · rw [hTj j e]
      intro hq
      refine law_keep (hI j e) (fun v hv => ?_) (h.law j (by omega) hq)
      obtain ⟨v0, v1, _⟩ := h.ins j (by omega) v hv
      exact hI _ (by omega)
theorem fold_ok {p : EProg} {t : ETrace} (hc : CheckOk p t) : ∀ i, i ≤ t.2.2.2.1.length → FoldOk t i (foldSt t i)
  | 0, _ => ⟨rfl, rfl, fun _ _ => rfl, fun j h => by omega, fun j h => by omega, fun j h => by omega⟩
  | i + 1, h => fold_step hc (fold_ok hc i (by omega)) (by omega)
end Go.Proofs.YtefkifdhjabdiaaDoor
namespace Go.Proofs.YtefkifdhjabdiaaDoor
set_option maxHeartbeats 4000000
set_option linter.unusedVariables false
set_option linter.unusedSimpArgs false
set_option maxRecDepth 100000
def foldT (t : ETrace) : ETrace := (t.1, t.2.1, t.2.2.1, (foldSt t t.2.2.2.1.length).1, t.2.2.2.2)
noncomputable def foldDo (p : EProg) (t : ETrace) : ETrace × Int := if checkF p t = 0 then cutF (foldT t) (foldSt t t.2.2.2.1.length).2 else (noT, checkF p t)
theorem put_need {p : EProg} {t : ETrace} (hc : CheckOk p t) {i : Nat} {ins : List EIns} {to : List Int} (h : FoldOk t i (ins, to)) (hl : to.length = i) (hi : i < t.2.2.2.1.length) :
    ((0 : Int) < ((askF (ins.getD i tIns.dflt)).length : Int) → 0 ≤ (ins.getD i tIns.dflt).2.1 ∧ (ins.getD i tIns.dflt).2.1 < ((to ++ [(i : Int)]).length : Int)) ∧
    ((1 : Int) < ((askF (ins.getD i tIns.dflt)).length : Int) → 0 ≤ (ins.getD i tIns.dflt).2.2.1 ∧ (ins.getD i tIns.dflt).2.2.1 < ((to ++ [(i : Int)]).length : Int)) ∧
    ((2 : Int) < ((askF (ins.getD i tIns.dflt)).length : Int) → 0 ≤ (ins.getD i tIns.dflt).2.2.2.1 ∧ (ins.getD i tIns.dflt).2.2.2.1 < ((to ++ [(i : Int)]).length : Int)) := by
  have e : ins.getD i tIns.dflt = t.2.2.2.1.getD i tIns.dflt := h.rest i (Nat.le_refl _)
  rw [e, List.length_append, hl]
  obtain ⟨a, b, c⟩ := ask_in hc hi
  refine ⟨fun q => ?_, fun q => ?_, fun q => ?_⟩
  · have := a q; rw [List.length_singleton]; omega
  · have := b q; rw [List.length_singleton]; omega
  · have := c q; rw [List.length_singleton]; omega
theorem one_need {p : EProg} {t : ETrace} (hc : CheckOk p t) {i : Nat} {ins : List EIns} {to : List Int} (h : FoldOk t i (ins, to)) (hl : to.length = i) (hi : i < t.2.2.2.1.length) :
    (4 ≤ (oneX (ins.set i (putI (ins.getD i tIns.dflt) (to ++ [(i : Int)]))) (i : Int)).1 → (oneX (ins.set i (putI (ins.getD i tIns.dflt) (to ++ [(i : Int)]))) (i : Int)).1 ≤ 8 → 0 ≤ (oneX (ins.set i (putI (ins.getD i tIns.dflt) (to ++ [(i : Int)]))) (i : Int)).2.1 ∧ (oneX (ins.set i (putI (ins.getD i tIns.dflt) (to ++ [(i : Int)]))) (i : Int)).2.1 < ((t.2.2.2.1.length : Nat) : Int)) ∧
    ((oneX (ins.set i (putI (ins.getD i tIns.dflt) (to ++ [(i : Int)]))) (i : Int)).1 = 7 → 0 ≤ (oneX (ins.set i (putI (ins.getD i tIns.dflt) (to ++ [(i : Int)]))) (i : Int)).2.2.1 ∧ (oneX (ins.set i (putI (ins.getD i tIns.dflt) (to ++ [(i : Int)]))) (i : Int)).2.2.1 < ((t.2.2.2.1.length : Nat) : Int)) := by
  obtain ⟨_, _, _, hx⟩ := put_x hc h hi
  have hx : ∀ v ∈ askF (oneX (ins.set i (putI (ins.getD i tIns.dflt) (to ++ [(i : Int)]))) (i : Int)), 0 ≤ v ∧ v < (i : Int) ∧ to.getD v.toNat tI.dflt = v := hx
  generalize oneX (ins.set i (putI (ins.getD i tIns.dflt) (to ++ [(i : Int)]))) (i : Int) = x at hx ⊢
  refine ⟨fun h4 h8 => ?_, fun h7 => ?_⟩
  · have m : x.2.1 ∈ askF x := by
      have hc : x.1 = 7 ∨ x.1 = 8 ∨ (x.1 = 4 ∨ x.1 = 5 ∨ x.1 = 6) := by omega
      rcases hc with e | e | e
      · rw [askF7 e]; simp
      · rw [askF8 e]; simp
      · rw [askF456 e]; simp
    obtain ⟨q0, q1, _⟩ := hx _ m
    exact ⟨q0, by omega⟩
  · obtain ⟨q0, q1, _⟩ := hx x.2.2.1 (by rw [askF7 h7]; simp)
    exact ⟨q0, by omega⟩
noncomputable def oc_folddo : Orc where
  pure := fun f args => match f, args with
    | 17, [a0, a1] => match dA tProg a0, dA tTrace a1 with
      | some x0, some x1 => some (.c (.int .i64 (checkF x0 x1)))
      | _, _ => none
    | 22, [a0, a1] => match dA tTrace a0, dA (.slice tI) a1 with
      | some x0, some x1 => some (.tup [.agg (Ty.enc tTrace ((cutF x0 x1).1)), .c (.int .i64 ((cutF x0 x1).2))])
      | _, _ => none
    | 66, [a0, a1] => match dA tIns a0, dA (.slice tI) a1 with
      | some x0, some x1 => some (.agg (Ty.enc tIns (putI x0 x1)))
      | _, _ => none
    | _, _ => none
  heap := fun f args H => match f, args with
    | 67, [.one (.c (.ptr b0 0 0 0)), a1] => match cellsAs 136 H[b0]? with
      | some [c0_0_0, c0_0_1, c0_0_2, c0_0_3, c0_0_4, c0_0_5, c0_0_6, c0_0_7, c0_0_8, c0_0_9, c0_0_10, c0_0_11, c0_0_12, c0_1, c0_2, c0_3, .osl b1 8 n0_4, c0_5, c0_6_0, c0_6_1, c0_6_2, c0_6_3, c0_7_0, c0_7_1, c0_7_2, c0_7_3, .osl b2 1 n0_8] => (match dA tI a1, dCs tTrace [c0_0_0, c0_0_1, c0_0_2, c0_0_3, c0_0_4, c0_0_5, c0_0_6, c0_0_7, c0_0_8, c0_0_9, c0_0_10, c0_0_11, c0_0_12], dC tI c0_1, dC tI c0_2, dC tI c0_3, dC (.slice tExit) c0_5, dCs tExit [c0_6_0, c0_6_1, c0_6_2, c0_6_3], dCs tExit [c0_7_0, c0_7_1, c0_7_2, c0_7_3], ovecAs 46 tIns H[b1]?, ovecAs 3 tI H[b2]? with
        | some x1, some y0_0, some y0_1, some y0_2, some y0_3, some y0_5, some y0_6, some y0_7, some y1, some y2 => hres [b0, b1, b2] H (.tup []) [.cells 136 (fldC y0_0 y0_1 y0_2 y0_3 n0_4 y0_5 y0_6 y0_7 n0_8), .ovec 46 tIns (oneI y0_0 y1 x1), .ovec 3 tI (oneT y0_0 y1 y2 x1)]
        | _, _, _, _, _, _, _, _, _, _ => none)
      | _ => none
    | _, _ => none
def folddo_lv : LV := ⟨(F4 (true :: F2 (true :: F16 (F8 (true :: true :: F32 (F8 (F4 (F2 (false :: []))))))))), []⟩
abbrev bEi1 : AB := .cells 29 [.int .i64 0, .int .i64 0, .int .i64 0, .nilsl, .nilsl, .int .i64 0, .int .i64 0, .nilsl, .nilsl, .int .i64 0, .int .i64 0, .nilsl, .nilsl]
noncomputable def folddo_T (p : EProg) (t : ETrace) : Tree :=
  .call 17 [.agg (Ty.enc tProg p), .agg (Ty.enc tTrace t)] false (.c (.int .i64 (checkF p t))) <|
  .ite ((!(decide (checkF p t = 0))))
  (.ret (.tup [.agg [.int .i64 0, .int .i64 0, .int .i64 0, .nilsl, .nilsl, .int .i64 0, .int .i64 0, .nilsl, .nilsl, .int .i64 0, .int .i64 0, .nilsl, .nilsl], .c (.int .i64 (checkF p t))]) [.cells 39 (Ty.enc tProg p), .cells 29 (Ty.enc tTrace t), bEi1])
  (.need (t.2.2.2.1.length * 64 ≤ 140737488355328) <|
   .ite (t.2.2.2.1.isEmpty)
   (.stop (lp (bodyOf Tryd.f33) 0) (J4 (.c (.ptr 2 0 0 0) :: J2 (.c (.ptr 3 0 0 0) :: J16 (J8 (.c (.int .i64 0) :: .c (.int .i64 0) :: J32 (J8 (J4 (J2 (.junk :: []))))))))) [.cells 39 (Ty.enc tProg p), .cells 29 (Ty.enc tTrace t), bEi1, .cells 136 [.int .i64 t.1, .int .i64 t.2.1, .int .i64 t.2.2.1, .ro tIns t.2.2.2.1, .ro tExit t.2.2.2.2.1, .int .i64 t.2.2.2.2.2.1.1, .int .i64 t.2.2.2.2.2.1.2.1, .ro tVal t.2.2.2.2.2.1.2.2.1, .ro tMake t.2.2.2.2.2.1.2.2.2, .int .i64 t.2.2.2.2.2.2.1, .int .i64 t.2.2.2.2.2.2.2.1, .ro tVal t.2.2.2.2.2.2.2.2.1, .ro tMake t.2.2.2.2.2.2.2.2.2, .int .i64 t.1, .int .i64 t.2.1, .int .i64 t.2.2.1, .nilsl, .ro tExit t.2.2.2.2.1, .int .i64 t.2.2.2.2.2.1.1, .int .i64 t.2.2.2.2.2.1.2.1, .ro tVal t.2.2.2.2.2.1.2.2.1, .ro tMake t.2.2.2.2.2.1.2.2.2, .int .i64 t.2.2.2.2.2.2.1, .int .i64 t.2.2.2.2.2.2.2.1, .ro tVal t.2.2.2.2.2.2.2.2.1, .ro tMake t.2.2.2.2.2.2.2.2.2, .nilsl]])
   (.stop (lp (bodyOf Tryd.f33) 0) (J4 (.c (.ptr 2 0 0 0) :: J2 (.c (.ptr 3 0 0 0) :: J16 (J8 (.c (.int .i64 ((t.2.2.2.1.length : Nat) : Int)) :: .c (.int .i64 0) :: J32 (J8 (J4 (J2 (.junk :: []))))))))) [.cells 39 (Ty.enc tProg p), .cells 29 (Ty.enc tTrace t), bEi1, .cells 136 [.int .i64 t.1, .int .i64 t.2.1, .int .i64 t.2.2.1, .ro tIns t.2.2.2.1, .ro tExit t.2.2.2.2.1, .int .i64 t.2.2.2.2.2.1.1, .int .i64 t.2.2.2.2.2.1.2.1, .ro tVal t.2.2.2.2.2.1.2.2.1, .ro tMake t.2.2.2.2.2.1.2.2.2, .int .i64 t.2.2.2.2.2.2.1, .int .i64 t.2.2.2.2.2.2.2.1, .ro tVal t.2.2.2.2.2.2.2.2.1, .ro tMake t.2.2.2.2.2.2.2.2.2, .int .i64 t.1, .int .i64 t.2.1, .int .i64 t.2.2.1, .sl 4 8 0 t.2.2.2.1.length, .ro tExit t.2.2.2.2.1, .int .i64 t.2.2.2.2.2.1.1, .int .i64 t.2.2.2.2.2.1.2.1, .ro tVal t.2.2.2.2.2.1.2.2.1, .ro tMake t.2.2.2.2.2.1.2.2.2, .int .i64 t.2.2.2.2.2.2.1, .int .i64 t.2.2.2.2.2.2.2.1, .ro tVal t.2.2.2.2.2.2.2.2.1, .ro tMake t.2.2.2.2.2.2.2.2.2, .nilsl], .vec 46 tIns t.2.2.2.1]))
theorem folddo_T_ok (p : EProg) (t : ETrace) : aRun Tryd.prog oc_folddo Tryd.f33 folddo_lv 3000 [.code (bodyOf Tryd.f33)] ([.agg (tProg.enc p), .agg (tTrace.enc t)] ++ List.replicate (Func.ntmps Tryd.f33 - 2) .junk) [] = folddo_T p t := by kernel_rfl
abbrev bEi0 (t : ETrace) (i : Nat) : AB := .cells 136 [.int .i64 t.1, .int .i64 t.2.1, .int .i64 t.2.2.1, .ro tIns t.2.2.2.1, .ro tExit t.2.2.2.2.1, .int .i64 t.2.2.2.2.2.1.1, .int .i64 t.2.2.2.2.2.1.2.1, .ro tVal t.2.2.2.2.2.1.2.2.1, .ro tMake t.2.2.2.2.2.1.2.2.2, .int .i64 t.2.2.2.2.2.2.1, .int .i64 t.2.2.2.2.2.2.2.1, .ro tVal t.2.2.2.2.2.2.2.2.1, .ro tMake t.2.2.2.2.2.2.2.2.2, .int .i64 t.1, .int .i64 t.2.1, .int .i64 t.2.2.1, .osl 2 8 t.2.2.2.1.length, .ro tExit t.2.2.2.2.1, .int .i64 t.2.2.2.2.2.1.1, .int .i64 t.2.2.2.2.2.1.2.1, .ro tVal t.2.2.2.2.2.1.2.2.1, .ro tMake t.2.2.2.2.2.1.2.2.2, .int .i64 t.2.2.2.2.2.2.1, .int .i64 t.2.2.2.2.2.2.2.1, .ro tVal t.2.2.2.2.2.2.2.2.1, .ro tMake t.2.2.2.2.2.2.2.2.2, .osl 3 1 i]
noncomputable def folddo_l0_R (p : EProg) (t : ETrace) (i : Nat) (ins : List EIns) (to : List Int) : Tree :=
  .ite (decide (((i : Nat) : Int) < (t.2.2.2.1.length : Int)))
  (.need (i = to.length) <|
   .need (0 = 0 ∧ 1 = ([((i : Nat) : Int)]).length) <|
   .need ((to.length + ([((i : Nat) : Int)]).length) * 8 ≤ 140737488355328) <|
   .need ((0 : Int) ≤ ((i : Nat) : Int) ∧ (((i : Nat) : Int) : Int) < ((t.2.2.2.1.length : Nat) : Int)) <|
   .need (i < ins.length) <|
   .need ((to ++ [((i : Nat) : Int)]).length = (to ++ [((i : Nat) : Int)]).length) <|
   .call 66 [.agg [.int .i64 (ins.getD i tIns.dflt).1, .int .i64 (ins.getD i tIns.dflt).2.1, .int .i64 (ins.getD i tIns.dflt).2.2.1, .int .i64 (ins.getD i tIns.dflt).2.2.2.1, .int .i64 (ins.getD i tIns.dflt).2.2.2.2.1, .int .i64 (ins.getD i tIns.dflt).2.2.2.2.2.1, .int .i64 (ins.getD i tIns.dflt).2.2.2.2.2.2.1, .int .i64 (ins.getD i tIns.dflt).2.2.2.2.2.2.2], .c (.ro tI (to ++ [((i : Nat) : Int)]))] true (.agg [.int .i64 (putI (ins.getD i tIns.dflt) (to ++ [((i : Nat) : Int)])).1, .int .i64 (putI (ins.getD i tIns.dflt) (to ++ [((i : Nat) : Int)])).2.1, .int .i64 (putI (ins.getD i tIns.dflt) (to ++ [((i : Nat) : Int)])).2.2.1, .int .i64 (putI (ins.getD i tIns.dflt) (to ++ [((i : Nat) : Int)])).2.2.2.1, .int .i64 (putI (ins.getD i tIns.dflt) (to ++ [((i : Nat) : Int)])).2.2.2.2.1, .int .i64 (putI (ins.getD i tIns.dflt) (to ++ [((i : Nat) : Int)])).2.2.2.2.2.1, .int .i64 (putI (ins.getD i tIns.dflt) (to ++ [((i : Nat) : Int)])).2.2.2.2.2.2.1, .int .i64 (putI (ins.getD i tIns.dflt) (to ++ [((i : Nat) : Int)])).2.2.2.2.2.2.2]) <|
   .need ((0 : Int) ≤ ((i : Nat) : Int) ∧ (((i : Nat) : Int) : Int) < ((t.2.2.2.1.length : Nat) : Int)) <|
   .need (i < ins.length) <|
   .callH 67 [.c (.ptr 1 0 0 0), .c (.int .i64 ((i : Nat) : Int))] [bEi1, .cells 136 [.int .i64 t.1, .int .i64 t.2.1, .int .i64 t.2.2.1, .ro tIns t.2.2.2.1, .ro tExit t.2.2.2.2.1, .int .i64 t.2.2.2.2.2.1.1, .int .i64 t.2.2.2.2.2.1.2.1, .ro tVal t.2.2.2.2.2.1.2.2.1, .ro tMake t.2.2.2.2.2.1.2.2.2, .int .i64 t.2.2.2.2.2.2.1, .int .i64 t.2.2.2.2.2.2.2.1, .ro tVal t.2.2.2.2.2.2.2.2.1, .ro tMake t.2.2.2.2.2.2.2.2.2, .int .i64 t.1, .int .i64 t.2.1, .int .i64 t.2.2.1, .osl 2 8 t.2.2.2.1.length, .ro tExit t.2.2.2.2.1, .int .i64 t.2.2.2.2.2.1.1, .int .i64 t.2.2.2.2.2.1.2.1, .ro tVal t.2.2.2.2.2.1.2.2.1, .ro tMake t.2.2.2.2.2.1.2.2.2, .int .i64 t.2.2.2.2.2.2.1, .int .i64 t.2.2.2.2.2.2.2.1, .ro tVal t.2.2.2.2.2.2.2.2.1, .ro tMake t.2.2.2.2.2.2.2.2.2, .osl 5 1 (to ++ [((i : Nat) : Int)]).length], .ovec 46 tIns (ins.set i (putI (ins.getD i tIns.dflt) (to ++ [((i : Nat) : Int)]))), .dead, .vec 3 tI ([((i : Nat) : Int)]), .ovec 3 tI (to ++ [((i : Nat) : Int)])] (.tup []) [bEi1, .cells 136 [.int .i64 t.1, .int .i64 t.2.1, .int .i64 t.2.2.1, .ro tIns t.2.2.2.1, .ro tExit t.2.2.2.2.1, .int .i64 t.2.2.2.2.2.1.1, .int .i64 t.2.2.2.2.2.1.2.1, .ro tVal t.2.2.2.2.2.1.2.2.1, .ro tMake t.2.2.2.2.2.1.2.2.2, .int .i64 t.2.2.2.2.2.2.1, .int .i64 t.2.2.2.2.2.2.2.1, .ro tVal t.2.2.2.2.2.2.2.2.1, .ro tMake t.2.2.2.2.2.2.2.2.2, .int .i64 t.1, .int .i64 t.2.1, .int .i64 t.2.2.1, .osl 2 8 t.2.2.2.1.length, .ro tExit t.2.2.2.2.1, .int .i64 t.2.2.2.2.2.1.1, .int .i64 t.2.2.2.2.2.1.2.1, .ro tVal t.2.2.2.2.2.1.2.2.1, .ro tMake t.2.2.2.2.2.1.2.2.2, .int .i64 t.2.2.2.2.2.2.1, .int .i64 t.2.2.2.2.2.2.2.1, .ro tVal t.2.2.2.2.2.2.2.2.1, .ro tMake t.2.2.2.2.2.2.2.2.2, .osl 5 1 (to ++ [((i : Nat) : Int)]).length], .ovec 46 tIns (oneI t (ins.set i (putI (ins.getD i tIns.dflt) (to ++ [((i : Nat) : Int)]))) ((i : Nat) : Int)), .dead, .vec 3 tI ([((i : Nat) : Int)]), .ovec 3 tI (oneT t (ins.set i (putI (ins.getD i tIns.dflt) (to ++ [((i : Nat) : Int)]))) (to ++ [((i : Nat) : Int)]) ((i : Nat) : Int))] [1, 2, 5] <|
   .need (inR .i64 (((i : Nat) : Int) + 1)) <|
   .stop (lp (bodyOf Tryd.f33) 0) (J4 (.c (.ptr 0 0 0 0) :: J2 (.c (.ptr 1 0 0 0) :: J16 (J8 (.c (.int .i64 (t.2.2.2.1.length : Int)) :: .c (.int .i64 (((i : Nat) : Int) + 1)) :: J32 (J8 (J4 (J2 (.junk :: []))))))))) [bEi1, .cells 136 [.int .i64 t.1, .int .i64 t.2.1, .int .i64 t.2.2.1, .ro tIns t.2.2.2.1, .ro tExit t.2.2.2.2.1, .int .i64 t.2.2.2.2.2.1.1, .int .i64 t.2.2.2.2.2.1.2.1, .ro tVal t.2.2.2.2.2.1.2.2.1, .ro tMake t.2.2.2.2.2.1.2.2.2, .int .i64 t.2.2.2.2.2.2.1, .int .i64 t.2.2.2.2.2.2.2.1, .ro tVal t.2.2.2.2.2.2.2.2.1, .ro tMake t.2.2.2.2.2.2.2.2.2, .int .i64 t.1, .int .i64 t.2.1, .int .i64 t.2.2.1, .osl 2 8 t.2.2.2.1.length, .ro tExit t.2.2.2.2.1, .int .i64 t.2.2.2.2.2.1.1, .int .i64 t.2.2.2.2.2.1.2.1, .ro tVal t.2.2.2.2.2.1.2.2.1, .ro tMake t.2.2.2.2.2.1.2.2.2, .int .i64 t.2.2.2.2.2.2.1, .int .i64 t.2.2.2.2.2.2.2.1, .ro tVal t.2.2.2.2.2.2.2.2.1, .ro tMake t.2.2.2.2.2.2.2.2.2, .osl 5 1 (to ++ [((i : Nat) : Int)]).length], .ovec 46 tIns (oneI t (ins.set i (putI (ins.getD i tIns.dflt) (to ++ [((i : Nat) : Int)]))) ((i : Nat) : Int)), .dead, .vec 3 tI ([((i : Nat) : Int)]), .ovec 3 tI (oneT t (ins.set i (putI (ins.getD i tIns.dflt) (to ++ [((i : Nat) : Int)]))) (to ++ [((i : Nat) : Int)]) ((i : Nat) : Int))])
  (.need (t.2.2.2.1.length = ins.length) <|
   .need (i = to.length) <|
   .call 22 [.agg [.int .i64 t.1, .int .i64 t.2.1, .int .i64 t.2.2.1, .ro tIns ins, .ro tExit t.2.2.2.2.1, .int .i64 t.2.2.2.2.2.1.1, .int .i64 t.2.2.2.2.2.1.2.1, .ro tVal t.2.2.2.2.2.1.2.2.1, .ro tMake t.2.2.2.2.2.1.2.2.2, .int .i64 t.2.2.2.2.2.2.1, .int .i64 t.2.2.2.2.2.2.2.1, .ro tVal t.2.2.2.2.2.2.2.2.1, .ro tMake t.2.2.2.2.2.2.2.2.2], .c (.ro tI to)] false (.tup [.agg [.int .i64 (cutF (t.1, (t.2.1, (t.2.2.1, (ins, t.2.2.2.2)))) to).1.1, .int .i64 (cutF (t.1, (t.2.1, (t.2.2.1, (ins, t.2.2.2.2)))) to).1.2.1, .int .i64 (cutF (t.1, (t.2.1, (t.2.2.1, (ins, t.2.2.2.2)))) to).1.2.2.1, .ro tIns (cutF (t.1, (t.2.1, (t.2.2.1, (ins, t.2.2.2.2)))) to).1.2.2.2.1, .ro tExit (cutF (t.1, (t.2.1, (t.2.2.1, (ins, t.2.2.2.2)))) to).1.2.2.2.2.1, .int .i64 (cutF (t.1, (t.2.1, (t.2.2.1, (ins, t.2.2.2.2)))) to).1.2.2.2.2.2.1.1, .int .i64 (cutF (t.1, (t.2.1, (t.2.2.1, (ins, t.2.2.2.2)))) to).1.2.2.2.2.2.1.2.1, .ro tVal (cutF (t.1, (t.2.1, (t.2.2.1, (ins, t.2.2.2.2)))) to).1.2.2.2.2.2.1.2.2.1, .ro tMake (cutF (t.1, (t.2.1, (t.2.2.1, (ins, t.2.2.2.2)))) to).1.2.2.2.2.2.1.2.2.2, .int .i64 (cutF (t.1, (t.2.1, (t.2.2.1, (ins, t.2.2.2.2)))) to).1.2.2.2.2.2.2.1, .int .i64 (cutF (t.1, (t.2.1, (t.2.2.1, (ins, t.2.2.2.2)))) to).1.2.2.2.2.2.2.2.1, .ro tVal (cutF (t.1, (t.2.1, (t.2.2.1, (ins, t.2.2.2.2)))) to).1.2.2.2.2.2.2.2.2.1, .ro tMake (cutF (t.1, (t.2.1, (t.2.2.1, (ins, t.2.2.2.2)))) to).1.2.2.2.2.2.2.2.2.2], .c (.int .i64 (cutF (t.1, (t.2.1, (t.2.2.1, (ins, t.2.2.2.2)))) to).2)]) <|
   .ret (.tup [.agg [.int .i64 (cutF (t.1, (t.2.1, (t.2.2.1, (ins, t.2.2.2.2)))) to).1.1, .int .i64 (cutF (t.1, (t.2.1, (t.2.2.1, (ins, t.2.2.2.2)))) to).1.2.1, .int .i64 (cutF (t.1, (t.2.1, (t.2.2.1, (ins, t.2.2.2.2)))) to).1.2.2.1, .ro tIns (cutF (t.1, (t.2.1, (t.2.2.1, (ins, t.2.2.2.2)))) to).1.2.2.2.1, .ro tExit (cutF (t.1, (t.2.1, (t.2.2.1, (ins, t.2.2.2.2)))) to).1.2.2.2.2.1, .int .i64 (cutF (t.1, (t.2.1, (t.2.2.1, (ins, t.2.2.2.2)))) to).1.2.2.2.2.2.1.1, .int .i64 (cutF (t.1, (t.2.1, (t.2.2.1, (ins, t.2.2.2.2)))) to).1.2.2.2.2.2.1.2.1, .ro tVal (cutF (t.1, (t.2.1, (t.2.2.1, (ins, t.2.2.2.2)))) to).1.2.2.2.2.2.1.2.2.1, .ro tMake (cutF (t.1, (t.2.1, (t.2.2.1, (ins, t.2.2.2.2)))) to).1.2.2.2.2.2.1.2.2.2, .int .i64 (cutF (t.1, (t.2.1, (t.2.2.1, (ins, t.2.2.2.2)))) to).1.2.2.2.2.2.2.1, .int .i64 (cutF (t.1, (t.2.1, (t.2.2.1, (ins, t.2.2.2.2)))) to).1.2.2.2.2.2.2.2.1, .ro tVal (cutF (t.1, (t.2.1, (t.2.2.1, (ins, t.2.2.2.2)))) to).1.2.2.2.2.2.2.2.2.1, .ro tMake (cutF (t.1, (t.2.1, (t.2.2.1, (ins, t.2.2.2.2)))) to).1.2.2.2.2.2.2.2.2.2], .c (.int .i64 (cutF (t.1, (t.2.1, (t.2.2.1, (ins, t.2.2.2.2)))) to).2)]) [.cells 29 [.int .i64 (cutF (t.1, (t.2.1, (t.2.2.1, (ins, t.2.2.2.2)))) to).1.1, .int .i64 (cutF (t.1, (t.2.1, (t.2.2.1, (ins, t.2.2.2.2)))) to).1.2.1, .int .i64 (cutF (t.1, (t.2.1, (t.2.2.1, (ins, t.2.2.2.2)))) to).1.2.2.1, .ro tIns (cutF (t.1, (t.2.1, (t.2.2.1, (ins, t.2.2.2.2)))) to).1.2.2.2.1, .ro tExit (cutF (t.1, (t.2.1, (t.2.2.1, (ins, t.2.2.2.2)))) to).1.2.2.2.2.1, .int .i64 (cutF (t.1, (t.2.1, (t.2.2.1, (ins, t.2.2.2.2)))) to).1.2.2.2.2.2.1.1, .int .i64 (cutF (t.1, (t.2.1, (t.2.2.1, (ins, t.2.2.2.2)))) to).1.2.2.2.2.2.1.2.1, .ro tVal (cutF (t.1, (t.2.1, (t.2.2.1, (ins, t.2.2.2.2)))) to).1.2.2.2.2.2.1.2.2.1, .ro tMake (cutF (t.1, (t.2.1, (t.2.2.1, (ins, t.2.2.2.2)))) to).1.2.2.2.2.2.1.2.2.2, .int .i64 (cutF (t.1, (t.2.1, (t.2.2.1, (ins, t.2.2.2.2)))) to).1.2.2.2.2.2.2.1, .int .i64 (cutF (t.1, (t.2.1, (t.2.2.1, (ins, t.2.2.2.2)))) to).1.2.2.2.2.2.2.2.1, .ro tVal (cutF (t.1, (t.2.1, (t.2.2.1, (ins, t.2.2.2.2)))) to).1.2.2.2.2.2.2.2.2.1, .ro tMake (cutF (t.1, (t.2.1, (t.2.2.1, (ins, t.2.2.2.2)))) to).1.2.2.2.2.2.2.2.2.2], (bEi0 t i), .dead, .dead])
theorem folddo_l0_R_ok (p : EProg) (t : ETrace) (i : Nat) (ins : List EIns) (to : List Int) : aRound Tryd.prog oc_folddo Tryd.f33 folddo_lv 3000 (lp (bodyOf Tryd.f33) 0) (J4 (.c (.ptr 0 0 0 0) :: J2 (.c (.ptr 1 0 0 0) :: J16 (J8 (.c (.int .i64 (t.2.2.2.1.length : Int)) :: .c (.int .i64 ((i : Nat) : Int)) :: J32 (J8 (J4 (J2 (.junk :: []))))))))) [bEi1, (bEi0 t i), .ovec 46 tIns ins, .ovec 3 tI to] = folddo_l0_R p t i ins to := by kernel_rfl
theorem folddo_l0 (p : EProg) (t : ETrace) (i : Nat) (ins : List EIns) (to : List Int) (hc : CheckOk p t) (h1s : ins = (foldSt t i).1) (h2s : to = (foldSt t i).2) (hi : i ≤ t.2.2.2.1.length) : Run Tryd.prog 33 (retQ Tryd.prog (.tup [.agg (Ty.enc tTrace ((cutF (foldT t) (foldSt t t.2.2.2.1.length).2).1)), .c (.int .i64 ((cutF (foldT t) (foldSt t t.2.2.2.1.length).2).2))])) (lp (bodyOf Tryd.f33) 0) (J4 (.c (.ptr 0 0 0 0) :: J2 (.c (.ptr 1 0 0 0) :: J16 (J8 (.c (.int .i64 (t.2.2.2.1.length : Int)) :: .c (.int .i64 ((i : Nat) : Int)) :: J32 (J8 (J4 (J2 (.junk :: []))))))))) [bEi1, (bEi0 t i), .ovec 46 tIns ins, .ovec 3 tI to] :=
  Run.roundA oc_folddo folddo_lv 3000 Tryd.func33 mixed (folddo_l0_R p t i ins to) (folddo_l0_R_ok p t i ins to) (by
    unfold folddo_l0_R
    have hK := fold_ok hc i hi
    rw [← Prod.eta (foldSt t i), ← h1s, ← h2s] at hK
    have hli := hK.li
    have hlt := hK.lt
    have hlt2 : to.length = i := hlt
    have hli : ins.length = t.2.2.2.1.length := hli
    have hlt : to.length = i := hlt
    have hn := hc.n
    have hsm : traceSm (t.1, t.2.1, t.2.2.1, ins, t.2.2.2.2) := ⟨by show ins.length ≤ 1000000; omega, hc.small.2⟩
    refine g_iteD (fun h0 => ?_) (fun h0 => ?_)
    · refine g_need (by omega) ?_
      refine g_need (by constructor <;> rfl) ?_
      refine g_need (by simp only [List.length_append, List.length_cons, List.length_nil]; omega) ?_
      refine g_need (by omega) ?_
      refine g_need (by omega) ?_
      refine g_need (by omega) ?_
      refine g_call (putf_fun (ins.getD i tIns.dflt) (to ++ [((i : Nat) : Int)]) (put_need hc hK hlt2 (by omega)).1 (put_need hc hK hlt2 (by omega)).2.1 (put_need hc hK hlt2 (by omega)).2.2) (fun _ => rfl) ?_
      refine g_need (by omega) ?_
      refine g_need (by omega) ?_
      refine g_callH (AFunH.frameB [1, 2, 5] (onef_fun t t.1 t.2.1 t.2.2.1 t.2.2.2.1.length t.2.2.2.2.1 t.2.2.2.2.2.1 t.2.2.2.2.2.2 (to ++ [((i : Nat) : Int)]).length (ins.set i (putI (ins.getD i tIns.dflt) (to ++ [((i : Nat) : Int)]))) (to ++ [((i : Nat) : Int)]) ((i : Nat) : Int) ⟨by omega, by omega⟩ (one_need hc hK hlt2 (by omega)).1 (one_need hc hK hlt2 (by omega)).2 (by rw [List.length_set]; exact hli) rfl (by rw [List.length_append, hlt]; simp; omega)) rfl rfl rfl rfl rfl rfl rfl) ?_
      refine g_need (by rw [i64_iff]; omega) ?_
      refine g_stop (RunN.keep [0, 1, 2, 5] (F4 (true :: F2 (true :: F16 (F8 (true :: true :: F32 (F8 (F4 (F2 (false :: []))))))))) n0 (by decide) rfl rfl ?_)
      refine RunN.less (env' := (J4 (.c (.ptr 0 0 0 0) :: J2 (.c (.ptr 1 0 0 0) :: J16 (J8 (.c (.int .i64 (t.2.2.2.1.length : Int)) :: .c (.int .i64 (((i + 1) : Nat) : Int)) :: J32 (J8 (J4 (J2 (.junk :: [])))))))))) (H' := [bEi1, .cells 136 [.int .i64 t.1, .int .i64 t.2.1, .int .i64 t.2.2.1, .ro tIns t.2.2.2.1, .ro tExit t.2.2.2.2.1, .int .i64 t.2.2.2.2.2.1.1, .int .i64 t.2.2.2.2.2.1.2.1, .ro tVal t.2.2.2.2.2.1.2.2.1, .ro tMake t.2.2.2.2.2.1.2.2.2, .int .i64 t.2.2.2.2.2.2.1, .int .i64 t.2.2.2.2.2.2.2.1, .ro tVal t.2.2.2.2.2.2.2.2.1, .ro tMake t.2.2.2.2.2.2.2.2.2, .int .i64 t.1, .int .i64 t.2.1, .int .i64 t.2.2.1, .osl 2 8 t.2.2.2.1.length, .ro tExit t.2.2.2.2.1, .int .i64 t.2.2.2.2.2.1.1, .int .i64 t.2.2.2.2.2.1.2.1, .ro tVal t.2.2.2.2.2.1.2.2.1, .ro tMake t.2.2.2.2.2.1.2.2.2, .int .i64 t.2.2.2.2.2.2.1, .int .i64 t.2.2.2.2.2.2.2.1, .ro tVal t.2.2.2.2.2.2.2.2.1, .ro tMake t.2.2.2.2.2.2.2.2.2, .osl 3 1 (i + 1)], .ovec 46 tIns (oneI t (ins.set i (putI (ins.getD i tIns.dflt) (to ++ [((i : Nat) : Int)]))) ((i : Nat) : Int)), .ovec 3 tI (oneT t (ins.set i (putI (ins.getD i tIns.dflt) (to ++ [((i : Nat) : Int)]))) (to ++ [((i : Nat) : Int)]) ((i : Nat) : Int))]) (leAVs.same rfl) (⟨leB.refl _, ⟨rfl, leC.refl _, leC.refl _, leC.refl _, leC.refl _, leC.refl _, leC.refl _, leC.refl _, leC.refl _, leC.refl _, leC.refl _, leC.refl _, leC.refl _, leC.refl _, leC.refl _, leC.refl _, leC.refl _, leC.refl _, leC.refl _, leC.refl _, leC.refl _, leC.refl _, leC.refl _, leC.refl _, leC.refl _, leC.refl _, leC.refl _, ⟨rfl, rfl, by simp only [List.length_append, List.length_cons, List.length_nil]; omega⟩, trivial⟩, leB.refl _, leB.refl _, trivial⟩) ?_
      exact folddo_l0 p t (i + 1) (oneI t (ins.set i (putI (ins.getD i tIns.dflt) (to ++ [((i : Nat) : Int)]))) ((i : Nat) : Int)) (oneT t (ins.set i (putI (ins.getD i tIns.dflt) (to ++ [((i : Nat) : Int)]))) (to ++ [((i : Nat) : Int)]) ((i : Nat) : Int)) hc (by rw [h1s, h2s]; first | rfl | (simp only [Int.toNat_natCast]; rfl)) (by rw [h1s, h2s]; first | rfl | (simp only [Int.toNat_natCast]; rfl)) (by omega)
    · refine g_need (by omega) ?_
      refine g_need (by omega) ?_
      refine g_call (cut_fun (t.1, (t.2.1, (t.2.2.1, (ins, t.2.2.2.2)))) to (by assumption)) (fun h => nomatch h) ?_
      have ei : i = t.2.2.2.1.length := (by omega); subst ei; subst h1s; subst h2s
      refine g_rq ?_
      exact g_rl (⟨⟨⟨rfl, rfl⟩, ⟨rfl, rfl⟩, ⟨rfl, rfl⟩, ⟨rfl, rfl⟩, ⟨rfl, rfl⟩, ⟨rfl, rfl⟩, ⟨rfl, rfl⟩, ⟨rfl, rfl⟩, ⟨rfl, rfl⟩, ⟨rfl, rfl⟩, ⟨rfl, rfl⟩, ⟨rfl, rfl⟩, ⟨rfl, rfl⟩, trivial⟩, ⟨rfl, rfl⟩, trivial⟩) rfl
    )
  termination_by t.2.2.2.1.length - i
  decreasing_by all_goals omega
theorem folddo_fun (p : EProg) (t : ETrace) : AFun Tryd.prog 33 [.agg (tProg.enc p), .agg (tTrace.enc t)] (.tup [.agg (Ty.enc tTrace ((foldDo p t).1)), .c (.int .i64 ((foldDo p t).2))]) :=
  AFun.of oc_folddo folddo_lv 3000 Tryd.func33 mixed rfl (by decide) (Nat.le_of_ble_eq_true rfl) _ (folddo_T_ok p t) fun hF => by
    unfold folddo_T
    refine g_call (check_fun p t) (fun h => nomatch h) ?_
    refine g_iteND (fun h0 => ?_) (fun h0 => ?_)
    · rw [foldDo, if_neg (by assumption)]
      refine g_rq ?_
      exact g_rl (⟨⟨⟨rfl, rfl⟩, ⟨rfl, rfl⟩, ⟨rfl, rfl⟩, rfl, rfl, ⟨rfl, rfl⟩, ⟨rfl, rfl⟩, rfl, rfl, ⟨rfl, rfl⟩, ⟨rfl, rfl⟩, rfl, rfl, trivial⟩, ⟨rfl, rfl⟩, trivial⟩) rfl
    · refine g_need (by have hc := check_iff.1 h0; have := hc.n; omega) ?_
      refine g_ite (fun h1 => ?_) (fun h1 => ?_)
      · refine g_stop (RunN.keep [2, 3, 1002, 1003] (F4 (true :: F2 (true :: F16 (F8 (true :: true :: F32 (F8 (F4 (F2 (false :: []))))))))) n0 (by decide) rfl rfl ?_)
        refine RunN.less (env' := (J4 (.c (.ptr 0 0 0 0) :: J2 (.c (.ptr 1 0 0 0) :: J16 (J8 (.c (.int .i64 (t.2.2.2.1.length : Int)) :: .c (.int .i64 ((0 : Nat) : Int)) :: J32 (J8 (J4 (J2 (.junk :: [])))))))))) (H' := [bEi1, .cells 136 [.int .i64 t.1, .int .i64 t.2.1, .int .i64 t.2.2.1, .ro tIns t.2.2.2.1, .ro tExit t.2.2.2.2.1, .int .i64 t.2.2.2.2.2.1.1, .int .i64 t.2.2.2.2.2.1.2.1, .ro tVal t.2.2.2.2.2.1.2.2.1, .ro tMake t.2.2.2.2.2.1.2.2.2, .int .i64 t.2.2.2.2.2.2.1, .int .i64 t.2.2.2.2.2.2.2.1, .ro tVal t.2.2.2.2.2.2.2.2.1, .ro tMake t.2.2.2.2.2.2.2.2.2, .int .i64 t.1, .int .i64 t.2.1, .int .i64 t.2.2.1, .osl 2 8 t.2.2.2.1.length, .ro tExit t.2.2.2.2.1, .int .i64 t.2.2.2.2.2.1.1, .int .i64 t.2.2.2.2.2.1.2.1, .ro tVal t.2.2.2.2.2.1.2.2.1, .ro tMake t.2.2.2.2.2.1.2.2.2, .int .i64 t.2.2.2.2.2.2.1, .int .i64 t.2.2.2.2.2.2.2.1, .ro tVal t.2.2.2.2.2.2.2.2.1, .ro tMake t.2.2.2.2.2.2.2.2.2, .osl 3 1 0], .ovec 46 tIns ([]), .ovec 3 tI ([])]) (leAVs.skip 32 rfl ⟨⟨rfl, by have q := h1; simp only [List.isEmpty_iff, List.isEmpty_eq_false_iff] at q; simp [leC, q]⟩, leAVs.same rfl⟩) (⟨leB.refl _, ⟨rfl, leC.refl _, leC.refl _, leC.refl _, leC.refl _, leC.refl _, leC.refl _, leC.refl _, leC.refl _, leC.refl _, leC.refl _, leC.refl _, leC.refl _, leC.refl _, leC.refl _, leC.refl _, leC.refl _, by (exact (congrArg List.length (List.isEmpty_iff.1 h1) : t.2.2.2.1.length = 0)), leC.refl _, leC.refl _, leC.refl _, leC.refl _, leC.refl _, leC.refl _, leC.refl _, leC.refl _, leC.refl _, by rfl, trivial⟩, rfl, rfl, trivial⟩) ?_
        have hc := check_iff.1 h0; have ht := folddo_l0 p t 0 ([]) ([]) hc (by have q := h1; simp only [List.isEmpty_iff] at q; show [] = t.2.2.2.1; rw [q]) rfl (Nat.zero_le _); rw [foldDo, if_pos h0]; exact ht
      · refine g_stop (RunN.keep [2, 3, 4, 1003] (F4 (true :: F2 (true :: F16 (F8 (true :: true :: F32 (F8 (F4 (F2 (false :: []))))))))) n0 (by decide) rfl rfl ?_)
        refine RunN.less (env' := (J4 (.c (.ptr 0 0 0 0) :: J2 (.c (.ptr 1 0 0 0) :: J16 (J8 (.c (.int .i64 (t.2.2.2.1.length : Int)) :: .c (.int .i64 ((0 : Nat) : Int)) :: J32 (J8 (J4 (J2 (.junk :: [])))))))))) (H' := [bEi1, .cells 136 [.int .i64 t.1, .int .i64 t.2.1, .int .i64 t.2.2.1, .ro tIns t.2.2.2.1, .ro tExit t.2.2.2.2.1, .int .i64 t.2.2.2.2.2.1.1, .int .i64 t.2.2.2.2.2.1.2.1, .ro tVal t.2.2.2.2.2.1.2.2.1, .ro tMake t.2.2.2.2.2.1.2.2.2, .int .i64 t.2.2.2.2.2.2.1, .int .i64 t.2.2.2.2.2.2.2.1, .ro tVal t.2.2.2.2.2.2.2.2.1, .ro tMake t.2.2.2.2.2.2.2.2.2, .int .i64 t.1, .int .i64 t.2.1, .int .i64 t.2.2.1, .osl 2 8 t.2.2.2.1.length, .ro tExit t.2.2.2.2.1, .int .i64 t.2.2.2.2.2.1.1, .int .i64 t.2.2.2.2.2.1.2.1, .ro tVal t.2.2.2.2.2.1.2.2.1, .ro tMake t.2.2.2.2.2.1.2.2.2, .int .i64 t.2.2.2.2.2.2.1, .int .i64 t.2.2.2.2.2.2.2.1, .ro tVal t.2.2.2.2.2.2.2.2.1, .ro tMake t.2.2.2.2.2.2.2.2.2, .osl 3 1 0], .ovec 46 tIns t.2.2.2.1, .ovec 3 tI ([])]) (leAVs.skip 32 rfl ⟨⟨rfl, by omega⟩, leAVs.same rfl⟩) (⟨leB.refl _, ⟨rfl, leC.refl _, leC.refl _, leC.refl _, leC.refl _, leC.refl _, leC.refl _, leC.refl _, leC.refl _, leC.refl _, leC.refl _, leC.refl _, leC.refl _, leC.refl _, leC.refl _, leC.refl _, leC.refl _, ⟨rfl, rfl, rfl, rfl, by exact fun q => by rw [List.eq_nil_of_length_eq_zero q] at h1; cases h1⟩, leC.refl _, leC.refl _, leC.refl _, leC.refl _, leC.refl _, leC.refl _, leC.refl _, leC.refl _, leC.refl _, by rfl, trivial⟩, ⟨rfl, ⟨rfl, rfl⟩, by exact fun q => by rw [q] at h1; cases h1⟩, rfl, trivial⟩) ?_
        have hc := check_iff.1 h0; have ht := folddo_l0 p t 0 t.2.2.2.1 ([]) hc (by rfl) rfl (Nat.zero_le _); rw [foldDo, if_pos h0]; exact ht

end Go.Proofs.YtefkifdhjabdiaaDoor
namespace Go.Proofs.YtefkifdhjabdiaaDoor
set_option maxHeartbeats 4000000
set_option linter.unusedVariables false
set_option linter.unusedSimpArgs false
set_option maxRecDepth 100000
def iota (n : Nat) : List Int := (List.range n).map fun i : Nat => (i : Int)
theorem iota_succ (n : Nat) : iota n ++ [(n : Int)] = iota (n + 1) := by simp [iota, List.range_succ]
theorem iota_len (n : Nat) : (iota n).length = n := by simp [iota]
theorem iota_at {n : Nat} {v : Int} (h0 : 0 ≤ v) (h : v < n) : (iota n).getD v.toNat tI.dflt = v := by
  have hv : v.toNat < n := by omega
  rw [List.getD_eq_getElem?_getD, iota, List.getElem?_map, List.getElem?_range hv]
  show ((v.toNat : Nat) : Int) = v
  omega
theorem cutOne_iota {n : Nat} {v : Int} (h0 : 0 ≤ v) (h : v < n) : cutOne (iota n) v = (v, true) := by
  unfold cutOne
  rw [if_neg (by omega), if_neg (by rw [iota_len]; omega), if_neg (by rw [iota_at h0 h]; omega), iota_at h0 h]
theorem valueF_lt {c : EChk} {v a : Int} (h : valueF c v a = true) : 0 ≤ v ∧ v < a ∧ v < (c.2.2.2.2.1.length : Int) := by
  unfold valueF at h
  by_cases h1 : 0 ≤ v
  · rw [if_pos h1] at h
    by_cases h2 : v < a
    · rw [if_pos h2] at h
      by_cases h3 : v < (c.2.2.2.2.1.length : Int)
      · exact ⟨h1, h2, h3⟩
      · rw [if_neg h3] at h; cases h
    · rw [if_neg h2] at h; cases h
  · rw [if_neg h1] at h; cases h
theorem cut_sets {c : EChk} {a : Int} : ∀ {l : List EVal} {last : Int}, setsF c a last l = true → l.all (cutSetOk (iota c.2.2.2.2.1.length)) = true ∧ l.map (cutSet (iota c.2.2.2.2.1.length)) = l
  | [], _, _ => ⟨rfl, rfl⟩
  | s :: r, last, h => by
    unfold setsF at h
    split at h
    · cases h
    · split at h
      · cases h
      · split at h
        · cases h
        · rename_i _ _ hv
          obtain ⟨h0, _, h2⟩ := valueF_lt (by simpa using hv)
          obtain ⟨q1, q2⟩ := cut_sets h
          have e := cutOne_iota h0 h2
          refine ⟨?_, ?_⟩
          · rw [List.all_cons, q1, cutSetOk, e]; rfl
          · rw [List.map_cons, q2, cutSet, e]
theorem cut_make {c : EChk} {m : EMake} {a : Int} (h : makeF c m a = true) : cutMakeOk (iota c.2.2.2.2.1.length) m = true ∧ cutMake (iota c.2.2.2.2.1.length) m = m := by
  obtain ⟨h1, _, _, _, _, _, _, h8⟩ := makeF_iff.1 h
  obtain ⟨h0, _, h2⟩ := valueF_lt h1
  have e := cutOne_iota h0 h2
  have hl : ∀ v ∈ m.2.2.2, cutOne (iota c.2.2.2.2.1.length) v = (v, true) := fun v hv => by
    obtain ⟨h0, _, h2⟩ := valueF_lt (List.all_eq_true.1 h8 v hv)
    exact cutOne_iota h0 h2
  refine ⟨?_, ?_⟩
  · unfold cutMakeOk
    rw [e, Bool.true_and, List.all_eq_true]
    exact fun v hv => by rw [hl v hv]
  · unfold cutMake
    rw [e]
    have : (m.2.2.2.map fun v => (cutOne (iota c.2.2.2.2.1.length) v).1) = m.2.2.2 := by
      conv => rhs; rw [← List.map_id m.2.2.2]
      exact List.map_congr_left fun v hv => by rw [hl v hv]; rfl
    rw [this]
theorem cut_makes {c : EChk} {a : Int} : ∀ {l : List EMake} {last : Int}, makesF c a last l = true → l.all (cutMakeOk (iota c.2.2.2.2.1.length)) = true ∧ l.map (cutMake (iota c.2.2.2.2.1.length)) = l
  | [], _, _ => ⟨rfl, rfl⟩
  | m :: r, last, h => by
    unfold makesF at h
    split at h
    · cases h
    · split at h
      · cases h
      · rename_i _ hv
        obtain ⟨e1, e2⟩ := cut_make (c := c) (m := m) (a := a) (by simpa using hv)
        obtain ⟨q1, q2⟩ := cut_makes h
        exact ⟨by rw [List.all_cons, q1, e1]; rfl, by rw [List.map_cons, q2, e2]⟩
theorem cut_exit {c : EChk} {x : EExit} {a : Int} (h : rightXF c x a = true) : cutExitOk (iota c.2.2.2.2.1.length) x = true ∧ cutExit (iota c.2.2.2.2.1.length) x = x := by
  obtain ⟨_, _, h1, h2⟩ := rightXF_iff.1 h
  obtain ⟨a1, a2⟩ := cut_sets h1
  obtain ⟨b1, b2⟩ := cut_makes h2
  exact ⟨by unfold cutExitOk; rw [a1, b1]; rfl, by unfold cutExit; rw [a2, b2]⟩
theorem take_mem3 {a b c : Int} {n : Int} : (0 < n → a ∈ [a, b, c].take n.toNat) ∧ (1 < n → b ∈ [a, b, c].take n.toNat) ∧ (2 < n → c ∈ [a, b, c].take n.toNat) := by
  refine ⟨fun h => ?_, fun h => ?_, fun h => ?_⟩
  · rw [show n.toNat = (n.toNat - 1) + 1 by omega]; simp
  · rw [show n.toNat = (n.toNat - 2) + 1 + 1 by omega]; simp
  · rw [show n.toNat = (n.toNat - 3) + 1 + 1 + 1 by omega]; simp
theorem cut_ins {c : EChk} {x : EIns} {i : Nat} (ht : (ofF x.1).2 = true) (h : formedF c (ofF x.1).1 x (i : Int) = true) : cutInsOk (iota (i + 1)) x = true ∧ cutIns (iota (i + 1)) x = x := by
  unfold formedF at h
  rw [Bool.and_eq_true] at h
  have hv := h.1
  obtain ⟨m0, m1, m2⟩ := take_mem3 (a := x.2.1) (b := x.2.2.1) (c := x.2.2.2.1) (n := (ofF x.1).1.1)
  have key : ∀ v ∈ [x.2.1, x.2.2.1, x.2.2.2.1].take (ofF x.1).1.1.toNat, cutOne (iota (i + 1)) v = (v, true) := fun v hm => by
    obtain ⟨h0, h1, _⟩ := valueF_lt (List.all_eq_true.1 hv v hm)
    exact cutOne_iota h0 (by omega)
  have hst : ∀ (k v : Int), (k < (ofF x.1).1.1 → cutOne (iota (i + 1)) v = (v, true)) → stepOk (iota (i + 1)) (ofF x.1).1.1 k v = true ∧ stepV (iota (i + 1)) (ofF x.1).1.1 k v = v := fun k v hk => by
    unfold stepOk stepV
    by_cases h : k < (ofF x.1).1.1
    · rw [if_pos h, if_pos h, hk h]; exact ⟨rfl, rfl⟩
    · rw [if_neg h, if_neg h]; exact ⟨rfl, rfl⟩
  obtain ⟨a0, b0⟩ := hst 0 x.2.1 fun h => key _ (m0 h)
  obtain ⟨a1, b1⟩ := hst 1 x.2.2.1 fun h => key _ (m1 h)
  obtain ⟨a2, b2⟩ := hst 2 x.2.2.2.1 fun h => key _ (m2 h)
  have hc : cutAsks x.1 = (ofF x.1).1.1 := by unfold cutAsks; rw [if_pos ht]
  exact ⟨by unfold cutInsOk; rw [hc, a0, a1, a2]; rfl, by unfold cutIns; rw [hc, b0, b1, b2]⟩
theorem cut_loop {loop : Int} (l : List EIns) (hx : ∀ (i : Nat) (x : EIns), l[i]? = some x → cutInsOk (iota (i + 1)) x = true ∧ cutIns (iota (i + 1)) x = x) : ∀ (k i : Nat) (lo : Int), l.length - i = k → i ≤ l.length →
    ∃ lo', cutLoop loop i (l.drop i) ((iota l.length).drop i) (iota i) true lo (l.take i) = some (iota l.length, true, lo', l) ∧ ((i : Int) ≤ loop → loop < (l.length : Int) → lo' = loop) ∧ (loop < (i : Int) → lo' = lo)
  | 0, i, lo, hk, hi => by
    obtain rfl : i = l.length := by omega
    rw [List.drop_eq_nil_of_le (Nat.le_refl _), List.take_of_length_le (Nat.le_refl _)]
    exact ⟨lo, rfl, fun h1 h2 => by omega, fun _ => rfl⟩
  | k + 1, i, lo, hk, hi => by
    have hlt : i < l.length := by omega
    have hlt2 : i < (iota l.length).length := by rw [iota_len]; exact hlt
    have ex : l[i]? = some (l.getD i tIns.dflt) := by rw [List.getD_eq_getElem?_getD, List.getElem?_eq_getElem hlt]; rfl
    obtain ⟨q1, q2⟩ := hx i _ ex
    have e1 : (iota l.length).getD i tI.dflt = (i : Int) := by
      have := iota_at (n := l.length) (v := (i : Int)) (by omega) (by omega)
      rwa [Int.toNat_natCast] at this
    have et : l.take i ++ [l.getD i tIns.dflt] = l.take (i + 1) := by rw [List.take_add_one, ex]; rfl
    have el : ((l.take i).length : Int) = (i : Int) := by rw [List.length_take, Nat.min_eq_left hi]
    obtain ⟨lo', r1, r2, r3⟩ := cut_loop (loop := loop) l hx k (i + 1) (if (i : Int) = loop then (i : Int) else lo) (by omega) (by omega)
    refine ⟨lo', ?_, fun h1 h2 => ?_, fun h1 => ?_⟩
    · rw [dropCons (α := EIns) (Ty.dflt tIns) hlt, dropCons (α := Int) (Ty.dflt tI) hlt2, cutLoop, if_pos e1, el, iota_succ, q1, q2, et]
      exact r1
    · by_cases h : (i : Int) = loop
      · have := r3 (by omega)
        rw [if_pos h] at this
        omega
      · exact r2 (by omega) h2
    · have := r3 (by omega)
      rw [if_neg (by omega)] at this
      exact this
theorem cut_all {p : EProg} {t : ETrace} (h : CheckOk p t) : cutF t (iota t.2.2.2.1.length) = (t, 0) := by
  have hx : ∀ (i : Nat) (x : EIns), t.2.2.2.1[i]? = some x → cutInsOk (iota (i + 1)) x = true ∧ cutIns (iota (i + 1)) x = x := fun i x hi => by
    obtain ⟨h1, h2⟩ := h.ins i x hi
    exact cut_ins h1 h2
  obtain ⟨lo', r1, r2, _⟩ := cut_loop (loop := t.2.2.1) t.2.2.2.1 hx _ 0 0 rfl (Nat.zero_le _)
  have hl : loopAt t lo' t.2.2.2.1.length = t.2.2.1 := by
    have g0 := h.loop0
    have g1 := h.loop1
    unfold loopAt
    by_cases h1 : t.2.2.1 ≤ 0
    · rw [if_pos h1]; omega
    · rw [if_neg h1]
      by_cases h2 : (t.2.2.2.1.length : Int) ≤ t.2.2.1
      · rw [if_pos h2]; omega
      · rw [if_neg h2]; exact r2 (by omega) (by omega)
  have hr1 : cutLoop t.2.2.1 0 t.2.2.2.1 (iota t.2.2.2.1.length) [] true 0 [] = some (iota t.2.2.2.1.length, true, lo', t.2.2.2.1) := r1
  have hex : t.2.2.2.2.1.all (cutExitOk (iota t.2.2.2.1.length)) = true ∧ t.2.2.2.2.1.map (cutExit (iota t.2.2.2.1.length)) = t.2.2.2.2.1 := by
    refine ⟨List.all_eq_true.2 fun x hx => (cut_exit (c := chkOf p t) (h.exits x hx)).1, ?_⟩
    conv => rhs; rw [← List.map_id t.2.2.2.2.1]
    exact List.map_congr_left fun x hx => (cut_exit (c := chkOf p t) (h.exits x hx)).2
  have htu : cutExitOk (iota t.2.2.2.1.length) t.2.2.2.2.2.1 = true ∧ cutExit (iota t.2.2.2.1.length) t.2.2.2.2.2.1 = t.2.2.2.2.2.1 := by
    rcases Int.lt_or_eq_of_le h.loop0 with hl | hl
    · exact cut_exit (c := chkOf p t) (h.turn1 hl).2
    · rw [bareF_iff.1 (h.turn0 hl.symm)]; exact ⟨rfl, rfl⟩
  have hba : cutExitOk (iota t.2.2.2.1.length) t.2.2.2.2.2.2 = true ∧ cutExit (iota t.2.2.2.1.length) t.2.2.2.2.2.2 = t.2.2.2.2.2.2 := cut_exit (c := chkOf p t) h.back.2
  unfold cutF
  rw [if_pos (iota_len _), hr1]
  show cutEnd t (iota t.2.2.2.1.length) true (loopAt t lo' t.2.2.2.1.length) t.2.2.2.1 = (t, 0)
  rw [hl]
  unfold cutEnd endF
  rw [List.drop_zero, hex.1, htu.1, hba.1, hex.2, htu.2, hba.2, List.nil_append]
  rfl
theorem cutLoop_len {loop : Int} : ∀ {xs : List EIns} {i : Nat} {ns at_ : List Int} {f : Bool} {lo : Int} {ins : List EIns} {r : List Int × Bool × Int × List EIns}, cutLoop loop i xs ns at_ f lo ins = some r → r.2.2.2.length ≤ ins.length + xs.length
  | [], i, ns, at_, f, lo, ins, r, h => by
    unfold cutLoop at h
    injection h with h
    rw [← h]
    exact Nat.le_add_right _ _
  | x :: xs, i, [], at_, f, lo, ins, r, h => by
    unfold cutLoop at h
    injection h with h
    rw [← h]
    exact Nat.le_add_right _ _
  | x :: xs, i, n :: ns, at_, f, lo, ins, r, h => by
    rw [cutLoop] at h
    rw [List.length_cons]
    split at h
    · have := cutLoop_len h
      rw [List.length_append, List.length_singleton] at this
      omega
    · split at h
      · have := cutLoop_len h; omega
      · split at h
        · split at h
          · have := cutLoop_len h; omega
          · cases h
        · cases h
theorem cut_any (t : ETrace) (to : List Int) : ((cutF t to).2 = 0 ∧ (cutF t to).1.2.2.2.1.length ≤ t.2.2.2.1.length) ∨ ((cutF t to).2 = 3 ∧ (cutF t to).1.2.2.2.1.length = 0) := by
  unfold cutF
  split
  · cases h : cutLoop t.2.2.1 0 t.2.2.2.1 to [] true 0 [] with
    | none => exact .inr ⟨rfl, rfl⟩
    | some r =>
      have hl := cutLoop_len h
      unfold cutThen cutEnd endF
      simp only
      split
      · exact .inl ⟨rfl, by simpa using hl⟩
      · exact .inr ⟨rfl, rfl⟩
  · exact .inr ⟨rfl, rfl⟩
theorem cutNone_all {p : EProg} {t : ETrace} {i : Nat} {l : List Int} (hc : CheckOk p t) (h0 : ¬ ((i : Int) < (t.2.2.2.1.length : Int))) (hi : i ≤ t.2.2.2.1.length) (ha : l = iota i) : cutF t l = (t, 0) := by
  obtain rfl : i = t.2.2.2.1.length := by omega
  rw [ha]
  exact cut_all hc
end Go.Proofs.YtefkifdhjabdiaaDoor
namespace Go.Proofs.YtefkifdhjabdiaaDoor
set_option maxHeartbeats 4000000
set_option linter.unusedVariables false
set_option linter.unusedSimpArgs false
set_option maxRecDepth 100000
/-- Those that are kept. -/
structure CutKept (l : List EIns) (to : List Int) (loop : Int) (i : Nat) (lo : Int) (ins : List EIns) (ks : List Nat) : Prop where
  len : ks.length = ins.length
  spot : ∀ (j e : Nat), ks[j]? = some e → e < i ∧ to[e]? = some (e : Int) ∧ ∃ x y, l[e]? = some x ∧ ins[j]? = some y ∧ y.1 = x.1 ∧ y.2.2.2.2 = x.2.2.2.2
  inc : ∀ (j1 j2 e1 e2 : Nat), j1 < j2 → ks[j1]? = some e1 → ks[j2]? = some e2 → e1 < e2
  side : loop < (i : Int) → 0 ≤ loop → ∀ (j e : Nat), ks[j]? = some e → ((e : Int) < loop ↔ (j : Int) < lo)
  lole : loop < (i : Int) → 0 ≤ loop → lo ≤ (ins.length : Int)
theorem CutKept.skip {l : List EIns} {to : List Int} {loop : Int} {i : Nat} {lo : Int} {ins : List EIns} {ks : List Nat} (h : CutKept l to loop i lo ins ks) : CutKept l to loop (i + 1) (if (i : Int) = loop then (ins.length : Int) else lo) ins ks := by
  refine ⟨h.len, fun j e hj => ?_, h.inc, fun h1 h2 j e hj => ?_, fun h1 h2 => ?_⟩
  · obtain ⟨q1, q2⟩ := h.spot j e hj
    exact ⟨by omega, q2⟩
  · by_cases hi : (i : Int) = loop
    · rw [if_pos hi]
      obtain ⟨q1, _⟩ := h.spot j e hj
      have : j < ks.length := (List.getElem?_eq_some_iff.1 hj).1
      rw [h.len] at this
      constructor <;> intro <;> omega
    · rw [if_neg hi]
      exact h.side (by omega) h2 j e hj
  · by_cases hi : (i : Int) = loop
    · rw [if_pos hi]; exact Int.le_refl _
    · rw [if_neg hi]; exact h.lole (by omega) h2
theorem CutKept.keep {l : List EIns} {to : List Int} {loop : Int} {i : Nat} {lo : Int} {ins : List EIns} {ks : List Nat} (h : CutKept l to loop i lo ins ks) {x y : EIns} (hx : l[i]? = some x) (hto : to[i]? = some (i : Int)) (h1 : y.1 = x.1) (h2 : y.2.2.2.2 = x.2.2.2.2) : CutKept l to loop (i + 1) (if (i : Int) = loop then (ins.length : Int) else lo) (ins ++ [y]) (ks ++ [i]) := by
  have s := h.skip
  have cs : ∀ (j e : Nat), (ks ++ [i])[j]? = some e → ks[j]? = some e ∨ j = ks.length ∧ e = i := fun j e hj => by
    rcases Nat.lt_or_ge j ks.length with hl | hl
    · rw [List.getElem?_append_left hl] at hj; exact .inl hj
    · rw [List.getElem?_append_right hl] at hj
      have hj0 : j - ks.length = 0 := by
        have := (List.getElem?_eq_some_iff.1 hj).1
        simp at this
        omega
      rw [hj0] at hj
      simp at hj
      exact .inr ⟨by omega, hj.symm⟩
  refine ⟨by simp [h.len], fun j e hj => ?_, fun j1 j2 e1 e2 hlt hj1 hj2 => ?_, fun g1 g2 j e hj => ?_, fun g1 g2 => ?_⟩
  · rcases cs j e hj with hj | ⟨rfl, rfl⟩
    · obtain ⟨q1, q2, a, b, q3, q4, q5⟩ := h.spot j e hj
      exact ⟨by omega, q2, a, b, q3, by rw [List.getElem?_append_left (List.getElem?_eq_some_iff.1 q4).1]; exact q4, q5⟩
    · exact ⟨by omega, hto, x, y, hx, by rw [h.len]; simp, h1, h2⟩
  · rcases cs j1 e1 hj1 with q1 | q1
    · rcases cs j2 e2 hj2 with q2 | q2
      · exact h.inc j1 j2 e1 e2 hlt q1 q2
      · have := (h.spot j1 e1 q1).1
        omega
    · rcases cs j2 e2 hj2 with q2 | q2
      · have := (List.getElem?_eq_some_iff.1 q2).1
        omega
      · omega
  · rcases cs j e hj with hj | ⟨rfl, rfl⟩
    · exact s.side g1 g2 j e hj
    · have := s.lole g1 g2
      rw [h.len]
      constructor <;> intro <;> omega
  · have := s.lole g1 g2
    rw [List.length_append, List.length_singleton]
    omega
theorem cut_full {t : ETrace} {to : List Int} (h : (cutF t to).2 = 0) : to.length = t.2.2.2.1.length ∧ ∃ r, cutLoop t.2.2.1 0 t.2.2.2.1 to [] true 0 [] = some r ∧ (cutF t to).1 = (t.1, t.2.1, loopAt t r.2.2.1 r.2.2.2.length, r.2.2.2, t.2.2.2.2.1.map (cutExit r.1), cutExit r.1 t.2.2.2.2.2.1, cutExit r.1 t.2.2.2.2.2.2) := by
  unfold cutF at h ⊢
  split at h
  · rename_i hl
    refine ⟨hl, ?_⟩
    rw [if_pos hl]
    cases hr : cutLoop t.2.2.1 0 t.2.2.2.1 to [] true 0 [] with
    | none => rw [hr] at h; exact absurd (show (3 : Int) = 0 from h) (by decide)
    | some r =>
      refine ⟨r, rfl, ?_⟩
      rw [hr] at h
      unfold cutThen cutEnd endF at h ⊢
      simp only at h ⊢
      split at h
      · rename_i hc
        rw [if_pos hc]
        simp
      · exact absurd (show (3 : Int) = 0 from h) (by decide)
  · exact absurd (show (3 : Int) = 0 from h) (by decide)
/-- Where those that are kept stand. -/
structure CutPos (l : List EIns) (to : List Int) (i : Nat) (at_ : List Int) (ins : List EIns) (ks : List Nat) : Prop where
  len : ks.length = ins.length
  alen : at_.length = i
  pos : ∀ (j e : Nat), ks[j]? = some e → e < i ∧ at_[e]? = some (j : Int) ∧ ∃ x, l[e]? = some x ∧ ins[j]? = some (cutIns (at_.take (e + 1)) x)
  full : ∀ e : Nat, e < i → to[e]? = some (e : Int) → ∃ j : Nat, ks[j]? = some e
theorem CutPos.skip {l : List EIns} {to : List Int} {i : Nat} {at_ : List Int} {ins : List EIns} {ks : List Nat} (h : CutPos l to i at_ ins ks) {v : Int} (hto : to[i]? ≠ some (i : Int)) : CutPos l to (i + 1) (at_ ++ [v]) ins ks := by
  have ha := h.alen
  refine ⟨h.len, by simp [ha], fun j e hj => ?_, fun e he hq => ?_⟩
  · obtain ⟨q1, q2, x, q3, q4⟩ := h.pos j e hj
    exact ⟨by omega, by rw [List.getElem?_append_left (by omega)]; exact q2, x, q3, by rw [List.take_append_of_le_length (by omega)]; exact q4⟩
  · rcases Nat.lt_or_ge e i with hlt | hge
    · exact h.full e hlt hq
    · obtain rfl : e = i := by omega
      exact absurd hq hto
theorem CutPos.keep {l : List EIns} {to : List Int} {i : Nat} {at_ : List Int} {ins : List EIns} {ks : List Nat} (h : CutPos l to i at_ ins ks) {x : EIns} (hx : l[i]? = some x) : CutPos l to (i + 1) (at_ ++ [(ins.length : Int)]) (ins ++ [cutIns (at_ ++ [(ins.length : Int)]) x]) (ks ++ [i]) := by
  have ha := h.alen
  have hl := h.len
  have cs : ∀ (j e : Nat), (ks ++ [i])[j]? = some e → ks[j]? = some e ∨ j = ks.length ∧ e = i := fun j e hj => by
    rcases Nat.lt_or_ge j ks.length with hl | hl
    · rw [List.getElem?_append_left hl] at hj; exact .inl hj
    · rw [List.getElem?_append_right hl] at hj
      have hj0 : j - ks.length = 0 := by
        have := (List.getElem?_eq_some_iff.1 hj).1
        simp at this
        omega
      rw [hj0] at hj
      simp at hj
      exact .inr ⟨by omega, hj.symm⟩
  refine ⟨by simp [hl], by simp [ha], fun j e hj => ?_, fun e he hq => ?_⟩
  · rcases cs j e hj with hj | ⟨rfl, rfl⟩
    · obtain ⟨q1, q2, y, q3, q4⟩ := h.pos j e hj
      exact ⟨by omega, by rw [List.getElem?_append_left (by omega)]; exact q2, y, q3, by rw [List.take_append_of_le_length (by omega), List.getElem?_append_left (List.getElem?_eq_some_iff.1 q4).1]; exact q4⟩
    · refine ⟨by omega, ?_, x, hx, ?_⟩
      · rw [← ha, List.getElem?_append_right (Nat.le_refl _), Nat.sub_self, hl]; rfl
      · rw [List.take_of_length_le (by simp [ha]), hl, List.getElem?_append_right (Nat.le_refl _), Nat.sub_self]; rfl
  · rcases Nat.lt_or_ge e i with hlt | hge
    · obtain ⟨j, hj⟩ := h.full e hlt hq
      exact ⟨j, by rw [List.getElem?_append_left (List.getElem?_eq_some_iff.1 hj).1]; exact hj⟩
    · obtain rfl : e = i := by omega
      exact ⟨ks.length, by rw [List.getElem?_append_right (Nat.le_refl _), Nat.sub_self]; rfl⟩
theorem cutLoop_pos {loop : Int} {l : List EIns} {to : List Int} (hl : to.length = l.length) : ∀ (k i : Nat) (at_ : List Int) (f : Bool) (lo : Int) (ins : List EIns) (ks : List Nat) (r : List Int × Bool × Int × List EIns), l.length - i = k → i ≤ l.length → cutLoop loop i (l.drop i) (to.drop i) at_ f lo ins = some r → CutPos l to i at_ ins ks → CutKept l to loop i lo ins ks → ∃ ks', CutPos l to l.length r.1 r.2.2.2 ks' ∧ CutKept l to loop l.length r.2.2.1 r.2.2.2 ks'
  | 0, i, at_, f, lo, ins, ks, r, hk, hi, h, K, K2 => by
    obtain rfl : i = l.length := by omega
    rw [List.drop_eq_nil_of_le (Nat.le_refl _)] at h
    unfold cutLoop at h
    injection h with h
    rw [← h]
    exact ⟨ks, K, K2⟩
  | k + 1, i, at_, f, lo, ins, ks, r, hk, hi, h, K, K2 => by
    have hlt : i < l.length := by omega
    have hlt2 : i < to.length := by omega
    have ex : l[i]? = some (l.getD i tIns.dflt) := by rw [List.getD_eq_getElem?_getD, List.getElem?_eq_getElem hlt]; rfl
    have et : to[i]? = some (to.getD i tI.dflt) := by rw [List.getD_eq_getElem?_getD, List.getElem?_eq_getElem hlt2]; rfl
    rw [dropCons (α := EIns) (Ty.dflt tIns) hlt, dropCons (α := Int) (Ty.dflt tI) hlt2, cutLoop] at h
    split at h
    · rename_i hv
      exact cutLoop_pos hl k (i + 1) _ _ _ _ _ r (by omega) (by omega) h (K.keep ex) (K2.keep ex (by rw [et]; exact congrArg some hv) rfl rfl)
    · rename_i hv
      have hne : to[i]? ≠ some (i : Int) := fun q => hv (Option.some.inj (et.symm.trans q))
      split at h
      · exact cutLoop_pos hl k (i + 1) _ _ _ _ _ r (by omega) (by omega) h (K.skip hne) K2.skip
      · split at h
        · split at h
          · exact cutLoop_pos hl k (i + 1) _ _ _ _ _ r (by omega) (by omega) h (K.skip hne) K2.skip
          · cases h
        · cases h
theorem cutOne_at {at_ : List Int} {v j : Int} {e : Nat} (h0 : 0 ≤ v) (he : v.toNat = e) (h : at_[e]? = some j) (hj : 0 ≤ j) : (cutOne at_ v).1 = j := by
  have hlt := (List.getElem?_eq_some_iff.1 h).1
  have hg : at_.getD v.toNat tI.dflt = j := by rw [he, List.getD_eq_getElem?_getD, h]; rfl
  unfold cutOne
  rw [if_neg (by omega), if_neg (by omega), hg, if_neg (by omega)]
theorem getD_of {α : Type} {l : List α} {i : Nat} {x d : α} (h : l[i]? = some x) : l.getD i d = x := by rw [List.getD_eq_getElem?_getD, h]; rfl
theorem askF_cutE {at_ : List Int} {x : EIns} : askF (cutIns at_ x) = (askF x).map fun v => (cutOne at_ v).1 := by
  obtain ⟨b0, b3⟩ := ofF_asks x.1
  unfold askF
  have e : (cutIns at_ x).1 = x.1 := rfl
  rw [e]
  by_cases ho : (ofF x.1).2 = true
  · rw [if_pos ho, if_pos ho]
    have ec : cutAsks x.1 = (ofF x.1).1.1 := by unfold cutAsks; rw [if_pos ho]
    have e1 : (cutIns at_ x).2.1 = stepV at_ (ofF x.1).1.1 0 x.2.1 := by rw [← ec]; rfl
    have e2 : (cutIns at_ x).2.2.1 = stepV at_ (ofF x.1).1.1 1 x.2.2.1 := by rw [← ec]; rfl
    have e3 : (cutIns at_ x).2.2.2.1 = stepV at_ (ofF x.1).1.1 2 x.2.2.2.1 := by rw [← ec]; rfl
    rw [e1, e2, e3]
    generalize (ofF x.1).1.1 = n at *
    unfold stepV
    have hn : n = 0 ∨ n = 1 ∨ n = 2 ∨ n = 3 := by omega
    rcases hn with rfl | rfl | rfl | rfl <;> simp
  · rw [if_neg ho, if_neg ho]; rfl
/-- The law goes through a cut. -/
theorem law_cut {ins out : List EIns} {e i : Nat} {a : List Int} (hx : out.getD i tIns.dflt = cutIns a (ins.getD e tIns.dflt)) (hv : ∀ v ∈ askF (ins.getD e tIns.dflt), ∃ b, out.getD (cutOne a v).1.toNat tIns.dflt = cutIns b (ins.getD v.toNat tIns.dflt)) (h : LawAt ins e) : LawAt out i := by
  have cB : ∀ v ∈ askF (ins.getD e tIns.dflt), constB out (cutOne a v).1 = constB ins v := fun v hm => by
    obtain ⟨b, hb⟩ := hv v hm
    unfold constB; rw [hb]; rfl
  have cK : ∀ v ∈ askF (ins.getD e tIns.dflt), constK out (cutOne a v).1 = constK ins v := fun v hm => by
    obtain ⟨b, hb⟩ := hv v hm
    unfold constK; rw [hb]; rfl
  obtain ⟨h8, h7, h4, h6⟩ := h
  have hop : (cutIns a (ins.getD e tIns.dflt)).1 = (ins.getD e tIns.dflt).1 := rfl
  have hN : (cutIns a (ins.getD e tIns.dflt)).2.2.2.2 = (ins.getD e tIns.dflt).2.2.2.2 := rfl
  have hE := askF_cutE (at_ := a) (x := ins.getD e tIns.dflt)
  unfold LawAt
  rw [hx, hop, hN]
  refine ⟨fun q => ?_, fun q => ?_, fun q => ?_, fun q => ?_⟩
  · have m : (ins.getD e tIns.dflt).2.1 ∈ askF (ins.getD e tIns.dflt) := by rw [askF8 q]; simp
    rw [askF8 (x := cutIns a (ins.getD e tIns.dflt)) q, askF8 q] at hE
    have e1 : (cutIns a (ins.getD e tIns.dflt)).2.1 = (cutOne a (ins.getD e tIns.dflt).2.1).1 := by simpa using hE
    rw [e1, cB _ m, cK _ m]; exact h8 q
  · have m : (ins.getD e tIns.dflt).2.1 ∈ askF (ins.getD e tIns.dflt) := by rw [askF7 q]; simp
    have m2 : (ins.getD e tIns.dflt).2.2.1 ∈ askF (ins.getD e tIns.dflt) := by rw [askF7 q]; simp
    rw [askF7 (x := cutIns a (ins.getD e tIns.dflt)) q, askF7 q] at hE
    have e1 : (cutIns a (ins.getD e tIns.dflt)).2.1 = (cutOne a (ins.getD e tIns.dflt).2.1).1 ∧ (cutIns a (ins.getD e tIns.dflt)).2.2.1 = (cutOne a (ins.getD e tIns.dflt).2.2.1).1 := by simpa using hE
    rw [e1.1, e1.2, cB _ m, cK _ m, cB _ m2, cK _ m2]; exact h7 q
  · have m : (ins.getD e tIns.dflt).2.1 ∈ askF (ins.getD e tIns.dflt) := by rw [askF456 (.inl q)]; simp
    rw [askF456 (x := cutIns a (ins.getD e tIns.dflt)) (.inl q), askF456 (.inl q)] at hE
    have e1 : (cutIns a (ins.getD e tIns.dflt)).2.1 = (cutOne a (ins.getD e tIns.dflt).2.1).1 := by simpa using hE
    rw [e1, cB _ m, cK _ m]; exact h4 q
  · have m : (ins.getD e tIns.dflt).2.1 ∈ askF (ins.getD e tIns.dflt) := by rw [askF456 (.inr (.inr q))]; simp
    rw [askF456 (x := cutIns a (ins.getD e tIns.dflt)) (.inr (.inr q)), askF456 (.inr (.inr q))] at hE
    have e1 : (cutIns a (ins.getD e tIns.dflt)).2.1 = (cutOne a (ins.getD e tIns.dflt).2.1).1 := by simpa using hE
    rw [e1, cB _ m, cK _ m]; exact h6 q
theorem fold_law {p : EProg} {t : ETrace} (h : (foldDo p t).2 = 0) : (foldDo p t).1.2.2.2.1.length ≤ 1000000 ∧ ∀ i, i < (foldDo p t).1.2.2.2.1.length → LawAt (foldDo p t).1.2.2.2.1 i ∧ ∀ v ∈ askF ((foldDo p t).1.2.2.2.1.getD i tIns.dflt), 0 ≤ v ∧ v < ((foldDo p t).1.2.2.2.1.length : Int) := by
  by_cases h0 : checkF p t = 0
  · have hc := check_iff.1 h0
    have e : foldDo p t = cutF (foldT t) (foldSt t t.2.2.2.1.length).2 := if_pos h0
    rw [e] at h ⊢
    have F := fold_ok hc t.2.2.2.1.length (Nat.le_refl _)
    obtain ⟨hlen, r, hr, hout⟩ := cut_full h
    obtain ⟨ks, K, K2⟩ := cutLoop_pos (loop := t.2.2.1) (l := (foldSt t t.2.2.2.1.length).1) (to := (foldSt t t.2.2.2.1.length).2) hlen _ 0 [] true 0 [] [] r rfl (Nat.zero_le _) (show cutLoop t.2.2.1 0 ((foldSt t t.2.2.2.1.length).1.drop 0) ((foldSt t t.2.2.2.1.length).2.drop 0) [] true 0 [] = some r from hr) ⟨rfl, rfl, fun j e h => by simp at h, fun e he => by omega⟩ ⟨rfl, fun j e h => by simp at h, fun _ _ _ _ _ h => by simp at h, fun _ _ j e h => by simp at h, fun _ _ => Int.le_refl _⟩
    have hn := hc.n
    have hin : r.2.2.2.length ≤ 1000000 := by
      rcases cut_any (foldT t) (foldSt t t.2.2.2.1.length).2 with ⟨_, q⟩ | ⟨q, _⟩
      · rw [hout] at q
        have q : r.2.2.2.length ≤ (foldSt t t.2.2.2.1.length).1.length := q
        rw [F.li] at q
        omega
      · rw [h] at q; exact absurd q (by decide)
    rw [hout]
    refine ⟨hin, fun i hi => ?_⟩
    have hi : i < r.2.2.2.length := hi
    show LawAt r.2.2.2 i ∧ ∀ v ∈ askF (r.2.2.2.getD i tIns.dflt), 0 ≤ v ∧ v < (r.2.2.2.length : Int)
    obtain ⟨e0, he0⟩ : ∃ e, ks[i]? = some e := ⟨_, List.getElem?_eq_getElem (by rw [K.len]; exact hi)⟩
    obtain ⟨q1, q2, x, q3, q4⟩ := K.pos i e0 he0
    obtain ⟨_, q5, _⟩ := K2.spot i e0 he0
    have hx : (foldSt t t.2.2.2.1.length).1.getD e0 tIns.dflt = x := getD_of q3
    have hy : r.2.2.2.getD i tIns.dflt = cutIns (r.1.take (e0 + 1)) ((foldSt t t.2.2.2.1.length).1.getD e0 tIns.dflt) := by rw [hx]; exact getD_of q4
    have q1' : e0 < t.2.2.2.1.length := by rw [← F.li]; exact q1
    have hto : (foldSt t t.2.2.2.1.length).2.getD e0 tI.dflt = (e0 : Int) := getD_of q5
    -- what it asks for is kept
    have hv : ∀ v ∈ askF ((foldSt t t.2.2.2.1.length).1.getD e0 tIns.dflt), ∃ j b, (cutOne (r.1.take (e0 + 1)) v).1 = ((j : Nat) : Int) ∧ j < r.2.2.2.length ∧ r.2.2.2.getD j tIns.dflt = cutIns b ((foldSt t t.2.2.2.1.length).1.getD v.toNat tIns.dflt) := fun v hm => by
      obtain ⟨v0, v1, v2⟩ := F.ins e0 q1' v hm
      have hvl : v.toNat < (foldSt t t.2.2.2.1.length).2.length := by rw [F.lt]; omega
      have hvs : (foldSt t t.2.2.2.1.length).2[v.toNat]? = some ((v.toNat : Nat) : Int) := by
        rw [List.getElem?_eq_getElem hvl]
        rw [List.getD_eq_getElem?_getD, List.getElem?_eq_getElem hvl] at v2
        have v2 : (foldSt t t.2.2.2.1.length).2[v.toNat] = v := v2
        rw [v2, Int.toNat_of_nonneg v0]
      obtain ⟨j, hj⟩ := K.full v.toNat (by rw [F.li]; omega) hvs
      obtain ⟨p1, p2, z, p3, p4⟩ := K.pos j v.toNat hj
      refine ⟨j, r.1.take (v.toNat + 1), ?_, (List.getElem?_eq_some_iff.1 p4).1, ?_⟩
      · exact cutOne_at v0 rfl (show (r.1.take (e0 + 1))[v.toNat]? = some (j : Int) by rw [List.getElem?_take_of_lt (by omega)]; exact p2) (Int.natCast_nonneg j)
      · rw [getD_of p4, getD_of p3]
    refine ⟨law_cut hy (fun v hm => ?_) (F.law e0 q1' hto), fun v hm => ?_⟩
    · obtain ⟨j, b, hj, _, hb⟩ := hv v hm
      exact ⟨b, by rw [hj, Int.toNat_natCast]; exact hb⟩
    · rw [hy, askF_cutE, List.mem_map] at hm
      obtain ⟨u, hu, rfl⟩ := hm
      obtain ⟨j, b, hj, hjl, _⟩ := hv u hu
      rw [hj]
      exact ⟨Int.natCast_nonneg j, by omega⟩
  · exfalso
    have e : foldDo p t = (noT, checkF p t) := if_neg h0
    rw [e] at h
    exact h0 h
/-- The law, as its function asks. -/
structure FoldAsk (O : List EIns) (i : Nat) : Prop where
  a0 : 0 < (askF (O.getD i tIns.dflt)).length → 0 ≤ (askF (O.getD i tIns.dflt)).getD 0 tI.dflt ∧ (askF (O.getD i tIns.dflt)).getD 0 tI.dflt < (O.length : Int)
  a1 : (O.getD i tIns.dflt).1 = 7 → 1 < (askF (O.getD i tIns.dflt)).length ∧ 0 ≤ (askF (O.getD i tIns.dflt)).getD 1 tI.dflt ∧ (askF (O.getD i tIns.dflt)).getD 1 tI.dflt < (O.length : Int)
  l8 : (O.getD i tIns.dflt).1 = 8 → (O.getD ((askF (O.getD i tIns.dflt)).getD 0 tI.dflt).toNat tIns.dflt).1 = 2 → ¬ (unaryV (O.getD i tIns.dflt).2.2.2.2.1 (O.getD ((askF (O.getD i tIns.dflt)).getD 0 tI.dflt).toNat tIns.dflt).2.2.2.2.2.2).2 < 0
  l7 : (O.getD i tIns.dflt).1 = 7 → (O.getD ((askF (O.getD i tIns.dflt)).getD 0 tI.dflt).toNat tIns.dflt).1 = 2 → (O.getD ((askF (O.getD i tIns.dflt)).getD 1 tI.dflt).toNat tIns.dflt).1 = 2 → ¬ (binaryV (O.getD i tIns.dflt).2.2.2.2.1 (O.getD ((askF (O.getD i tIns.dflt)).getD 0 tI.dflt).toNat tIns.dflt).2.2.2.2.2.2 (O.getD ((askF (O.getD i tIns.dflt)).getD 1 tI.dflt).toNat tIns.dflt).2.2.2.2.2.2).2 < 0
  l4 : (O.getD i tIns.dflt).1 = 4 → (O.getD ((askF (O.getD i tIns.dflt)).getD 0 tI.dflt).toNat tIns.dflt).1 = 2 → ¬ (O.getD ((askF (O.getD i tIns.dflt)).getD 0 tI.dflt).toNat tIns.dflt).2.2.2.2.2.2.1 = (O.getD i tIns.dflt).2.2.2.2.1
  l6 : (O.getD i tIns.dflt).1 = 6 → (O.getD ((askF (O.getD i tIns.dflt)).getD 0 tI.dflt).toNat tIns.dflt).1 = 2 → ¬ ((O.getD ((askF (O.getD i tIns.dflt)).getD 0 tI.dflt).toNat tIns.dflt).2.2.2.2.2.2.1 = (O.getD i tIns.dflt).2.2.2.2.2.2.1 ∧ (O.getD ((askF (O.getD i tIns.dflt)).getD 0 tI.dflt).toNat tIns.dflt).2.2.2.2.2.2.2 = (O.getD i tIns.dflt).2.2.2.2.2.2.2)
theorem fold_ask {p : EProg} {t : ETrace} (h : (foldDo p t).2 = 0) {i : Nat} (hi : i < (foldDo p t).1.2.2.2.1.length) : FoldAsk (foldDo p t).1.2.2.2.1 i := by
  obtain ⟨⟨h8, h7, h4, h6⟩, ha⟩ := (fold_law h).2 i hi
  generalize (foldDo p t).1.2.2.2.1 = O at *
  refine ⟨fun q => ha _ (getD_mem (α := Int) (Ty.dflt tI) q), fun q => ?_, fun q hq => ?_, fun q hq hr => ?_, fun q hq => ?_, fun q hq => ?_⟩
  · have q1 : 1 < (askF (O.getD i tIns.dflt)).length := by rw [askF7 q]; exact Nat.lt_succ_self 1
    exact ⟨q1, ha _ (getD_mem (α := Int) (Ty.dflt tI) q1)⟩
  · rw [askF8 q] at hq ⊢
    exact h8 q (decide_eq_true hq)
  · rw [askF7 q] at hq hr ⊢
    exact h7 q (decide_eq_true hq) (decide_eq_true hr)
  · rw [askF456 (.inl q)] at hq ⊢
    exact h4 q (decide_eq_true hq)
  · rw [askF456 (.inr (.inr q))] at hq ⊢
    exact fun hn => h6 q (decide_eq_true hq) (Prod.ext hn.1 hn.2)
end Go.Proofs.YtefkifdhjabdiaaDoor
namespace Go.Proofs.YtefkifdhjabdiaaDoor
set_option maxHeartbeats 4000000
set_option linter.unusedVariables false
set_option linter.unusedSimpArgs false
set_option maxRecDepth 100000
noncomputable def oc_foldNone : Orc where
  pure := fun f args => match f, args with
    | 15, [] => some (.c (.bool (true)))
    | 18, [a0] => match dA tIns a0 with
      | some x0 => some (.c (.ro tI (askF x0)))
      | _ => none
    | 33, [a0, a1] => match dA tProg a0, dA tTrace a1 with
      | some x0, some x1 => some (.tup [.agg (Ty.enc tTrace ((foldDo x0 x1).1)), .c (.int .i64 ((foldDo x0 x1).2))])
      | _, _ => none
    | 34, [a0, a1] => match dA tI a0, dA tVal a1 with
      | some x0, some x1 => some (.tup [.agg (Ty.enc tVal ((unaryV x0 x1).1)), .c (.int .i64 ((unaryV x0 x1).2))])
      | _, _ => none
    | 35, [a0, a1, a2] => match dA tI a0, dA tVal a1, dA tVal a2 with
      | some x0, some x1, some x2 => some (.tup [.agg (Ty.enc tVal ((binaryV x0 x1 x2).1)), .c (.int .i64 ((binaryV x0 x1 x2).2))])
      | _, _, _ => none
    | _, _ => none
  heap := fun _ _ _ => none
def foldNone_lv : LV := ⟨(F4 (false :: true :: F16 (F2 (true :: true :: F32 (F32 (F16 ([]))))))), []⟩
noncomputable def foldNone_T (p : EProg) (t : ETrace) : Tree :=
  .call 33 [.agg (Ty.enc tProg p), .agg (Ty.enc tTrace t)] false (.tup [.agg (Ty.enc tTrace (foldDo p t).1), .c (.int .i64 (foldDo p t).2)]) <|
  .ite ((!(decide ((foldDo p t).2 = 0))))
  (.call 15 [] false (.c (.bool true)) <|
   .ret (.c (.bool true)) [.cells 39 (Ty.enc tProg p), .cells 29 (Ty.enc tTrace t), .cells 29 (Ty.enc tTrace (foldDo p t).1)])
  (.stop (lp (bodyOf Tryd.f13) 0) (J4 (.junk :: .c (.ptr 2 0 0 0) :: J16 (J2 (.c (.int .i64 ((foldDo p t).1.2.2.2.1.length : Int)) :: .c (.int .i64 0) :: J32 (J32 (J16 ([]))))))) [.cells 39 (Ty.enc tProg p), .cells 29 (Ty.enc tTrace t), .cells 29 (Ty.enc tTrace (foldDo p t).1)])
theorem foldNone_T_ok (p : EProg) (t : ETrace) : aRun Tryd.prog oc_foldNone Tryd.f13 foldNone_lv 3000 [.code (bodyOf Tryd.f13)] ([.agg (tProg.enc p), .agg (tTrace.enc t)] ++ List.replicate (Func.ntmps Tryd.f13 - 2) .junk) [] = foldNone_T p t := by kernel_rfl
noncomputable def foldNone_l0_R (p : EProg) (t : ETrace) (i : Nat) : Tree :=
  .ite (decide (((i : Nat) : Int) < ((foldDo p t).1.2.2.2.1.length : Int)))
  (.need ((0 : Int) ≤ ((i : Nat) : Int) ∧ (((i : Nat) : Int) : Int) < ((foldDo p t).1.2.2.2.1.length : Int)) <|
   .need (i < (foldDo p t).1.2.2.2.1.length) <|
   .call 18 [.agg (Ty.enc tIns ((foldDo p t).1.2.2.2.1.getD i tIns.dflt))] false (.c (.ro tI (askF ((foldDo p t).1.2.2.2.1.getD i tIns.dflt)))) <|
   .ite (decide (((askF ((foldDo p t).1.2.2.2.1.getD i tIns.dflt)).length : Int) = 0))
   (.need (inR .i64 (((i : Nat) : Int) + 1)) <|
    .stop (lp (bodyOf Tryd.f13) 0) (J4 (.junk :: .c (.ptr 0 0 0 0) :: J16 (J2 (.c (.int .i64 ((foldDo p t).1.2.2.2.1.length : Int)) :: .c (.int .i64 (((i : Nat) : Int) + 1)) :: J32 (J32 (J16 ([]))))))) [.cells 29 (Ty.enc tTrace (foldDo p t).1), .cells 46 (Ty.enc tIns ((foldDo p t).1.2.2.2.1.getD i tIns.dflt))])
   (.need ((0 : Int) ≤ 0 ∧ (0 : Int) < ((askF ((foldDo p t).1.2.2.2.1.getD i tIns.dflt)).length : Int)) <|
    .need (0 < (askF ((foldDo p t).1.2.2.2.1.getD i tIns.dflt)).length) <|
    .need ((0 : Int) ≤ ((askF ((foldDo p t).1.2.2.2.1.getD i tIns.dflt)).getD 0 tI.dflt) ∧ (((askF ((foldDo p t).1.2.2.2.1.getD i tIns.dflt)).getD 0 tI.dflt) : Int) < ((foldDo p t).1.2.2.2.1.length : Int)) <|
    .need ((Int.toNat ((askF ((foldDo p t).1.2.2.2.1.getD i tIns.dflt)).getD 0 tI.dflt)) < (foldDo p t).1.2.2.2.1.length) <|
    .ite ((!(decide (((foldDo p t).1.2.2.2.1.getD (Int.toNat ((askF ((foldDo p t).1.2.2.2.1.getD i tIns.dflt)).getD 0 tI.dflt)) tIns.dflt).1 = 2))))
    (.need (inR .i64 (((i : Nat) : Int) + 1)) <|
     .stop (lp (bodyOf Tryd.f13) 0) (J4 (.junk :: .c (.ptr 0 0 0 0) :: J16 (J2 (.c (.int .i64 ((foldDo p t).1.2.2.2.1.length : Int)) :: .c (.int .i64 (((i : Nat) : Int) + 1)) :: J32 (J32 (J16 ([]))))))) [.cells 29 (Ty.enc tTrace (foldDo p t).1), .cells 46 (Ty.enc tIns ((foldDo p t).1.2.2.2.1.getD i tIns.dflt))])
    (.need ((0 : Int) ≤ 0 ∧ (0 : Int) < ((askF ((foldDo p t).1.2.2.2.1.getD i tIns.dflt)).length : Int)) <|
     .need (0 < (askF ((foldDo p t).1.2.2.2.1.getD i tIns.dflt)).length) <|
     .need ((0 : Int) ≤ ((askF ((foldDo p t).1.2.2.2.1.getD i tIns.dflt)).getD 0 tI.dflt) ∧ (((askF ((foldDo p t).1.2.2.2.1.getD i tIns.dflt)).getD 0 tI.dflt) : Int) < ((foldDo p t).1.2.2.2.1.length : Int)) <|
     .need ((Int.toNat ((askF ((foldDo p t).1.2.2.2.1.getD i tIns.dflt)).getD 0 tI.dflt)) < (foldDo p t).1.2.2.2.1.length) <|
     .ite (decide (((foldDo p t).1.2.2.2.1.getD i tIns.dflt).1 = 8))
     (.call 34 [.c (.int .i64 ((foldDo p t).1.2.2.2.1.getD i tIns.dflt).2.2.2.2.1), .agg (Ty.enc tVal ((foldDo p t).1.2.2.2.1.getD (Int.toNat ((askF ((foldDo p t).1.2.2.2.1.getD i tIns.dflt)).getD 0 tI.dflt)) tIns.dflt).2.2.2.2.2.2)] false (.tup [.agg [.int .i64 (unaryV ((foldDo p t).1.2.2.2.1.getD i tIns.dflt).2.2.2.2.1 ((foldDo p t).1.2.2.2.1.getD (Int.toNat ((askF ((foldDo p t).1.2.2.2.1.getD i tIns.dflt)).getD 0 tI.dflt)) tIns.dflt).2.2.2.2.2.2).1.1, .int .i64 (unaryV ((foldDo p t).1.2.2.2.1.getD i tIns.dflt).2.2.2.2.1 ((foldDo p t).1.2.2.2.1.getD (Int.toNat ((askF ((foldDo p t).1.2.2.2.1.getD i tIns.dflt)).getD 0 tI.dflt)) tIns.dflt).2.2.2.2.2.2).1.2], .c (.int .i64 (unaryV ((foldDo p t).1.2.2.2.1.getD i tIns.dflt).2.2.2.2.1 ((foldDo p t).1.2.2.2.1.getD (Int.toNat ((askF ((foldDo p t).1.2.2.2.1.getD i tIns.dflt)).getD 0 tI.dflt)) tIns.dflt).2.2.2.2.2.2).2)]) <|
      .ite (decide ((unaryV ((foldDo p t).1.2.2.2.1.getD i tIns.dflt).2.2.2.2.1 ((foldDo p t).1.2.2.2.1.getD (Int.toNat ((askF ((foldDo p t).1.2.2.2.1.getD i tIns.dflt)).getD 0 tI.dflt)) tIns.dflt).2.2.2.2.2.2).2 < 0))
      (.ret (.c (.lit false)) [.cells 29 (Ty.enc tTrace (foldDo p t).1), .cells 46 (Ty.enc tIns ((foldDo p t).1.2.2.2.1.getD i tIns.dflt)), .cells 44 (Ty.enc tVal ((foldDo p t).1.2.2.2.1.getD (Int.toNat ((askF ((foldDo p t).1.2.2.2.1.getD i tIns.dflt)).getD 0 tI.dflt)) tIns.dflt).2.2.2.2.2.2)])
      (.need (inR .i64 (((i : Nat) : Int) + 1)) <|
       .stop (lp (bodyOf Tryd.f13) 0) (J4 (.junk :: .c (.ptr 0 0 0 0) :: J16 (J2 (.c (.int .i64 ((foldDo p t).1.2.2.2.1.length : Int)) :: .c (.int .i64 (((i : Nat) : Int) + 1)) :: J32 (J32 (J16 ([]))))))) [.cells 29 (Ty.enc tTrace (foldDo p t).1), .cells 46 (Ty.enc tIns ((foldDo p t).1.2.2.2.1.getD i tIns.dflt)), .cells 44 (Ty.enc tVal ((foldDo p t).1.2.2.2.1.getD (Int.toNat ((askF ((foldDo p t).1.2.2.2.1.getD i tIns.dflt)).getD 0 tI.dflt)) tIns.dflt).2.2.2.2.2.2)]))
     (.ite (decide (((foldDo p t).1.2.2.2.1.getD i tIns.dflt).1 = 7))
      (.need ((0 : Int) ≤ 1 ∧ (1 : Int) < ((askF ((foldDo p t).1.2.2.2.1.getD i tIns.dflt)).length : Int)) <|
       .need (1 < (askF ((foldDo p t).1.2.2.2.1.getD i tIns.dflt)).length) <|
       .need ((0 : Int) ≤ ((askF ((foldDo p t).1.2.2.2.1.getD i tIns.dflt)).getD 1 tI.dflt) ∧ (((askF ((foldDo p t).1.2.2.2.1.getD i tIns.dflt)).getD 1 tI.dflt) : Int) < ((foldDo p t).1.2.2.2.1.length : Int)) <|
       .need ((Int.toNat ((askF ((foldDo p t).1.2.2.2.1.getD i tIns.dflt)).getD 1 tI.dflt)) < (foldDo p t).1.2.2.2.1.length) <|
       .ite (decide (((foldDo p t).1.2.2.2.1.getD (Int.toNat ((askF ((foldDo p t).1.2.2.2.1.getD i tIns.dflt)).getD 1 tI.dflt)) tIns.dflt).1 = 2))
       (.call 35 [.c (.int .i64 ((foldDo p t).1.2.2.2.1.getD i tIns.dflt).2.2.2.2.1), .agg (Ty.enc tVal ((foldDo p t).1.2.2.2.1.getD (Int.toNat ((askF ((foldDo p t).1.2.2.2.1.getD i tIns.dflt)).getD 0 tI.dflt)) tIns.dflt).2.2.2.2.2.2), .agg (Ty.enc tVal ((foldDo p t).1.2.2.2.1.getD (Int.toNat ((askF ((foldDo p t).1.2.2.2.1.getD i tIns.dflt)).getD 1 tI.dflt)) tIns.dflt).2.2.2.2.2.2)] false (.tup [.agg [.int .i64 (binaryV ((foldDo p t).1.2.2.2.1.getD i tIns.dflt).2.2.2.2.1 ((foldDo p t).1.2.2.2.1.getD (Int.toNat ((askF ((foldDo p t).1.2.2.2.1.getD i tIns.dflt)).getD 0 tI.dflt)) tIns.dflt).2.2.2.2.2.2 ((foldDo p t).1.2.2.2.1.getD (Int.toNat ((askF ((foldDo p t).1.2.2.2.1.getD i tIns.dflt)).getD 1 tI.dflt)) tIns.dflt).2.2.2.2.2.2).1.1, .int .i64 (binaryV ((foldDo p t).1.2.2.2.1.getD i tIns.dflt).2.2.2.2.1 ((foldDo p t).1.2.2.2.1.getD (Int.toNat ((askF ((foldDo p t).1.2.2.2.1.getD i tIns.dflt)).getD 0 tI.dflt)) tIns.dflt).2.2.2.2.2.2 ((foldDo p t).1.2.2.2.1.getD (Int.toNat ((askF ((foldDo p t).1.2.2.2.1.getD i tIns.dflt)).getD 1 tI.dflt)) tIns.dflt).2.2.2.2.2.2).1.2], .c (.int .i64 (binaryV ((foldDo p t).1.2.2.2.1.getD i tIns.dflt).2.2.2.2.1 ((foldDo p t).1.2.2.2.1.getD (Int.toNat ((askF ((foldDo p t).1.2.2.2.1.getD i tIns.dflt)).getD 0 tI.dflt)) tIns.dflt).2.2.2.2.2.2 ((foldDo p t).1.2.2.2.1.getD (Int.toNat ((askF ((foldDo p t).1.2.2.2.1.getD i tIns.dflt)).getD 1 tI.dflt)) tIns.dflt).2.2.2.2.2.2).2)]) <|
        .ite (decide ((binaryV ((foldDo p t).1.2.2.2.1.getD i tIns.dflt).2.2.2.2.1 ((foldDo p t).1.2.2.2.1.getD (Int.toNat ((askF ((foldDo p t).1.2.2.2.1.getD i tIns.dflt)).getD 0 tI.dflt)) tIns.dflt).2.2.2.2.2.2 ((foldDo p t).1.2.2.2.1.getD (Int.toNat ((askF ((foldDo p t).1.2.2.2.1.getD i tIns.dflt)).getD 1 tI.dflt)) tIns.dflt).2.2.2.2.2.2).2 < 0))
        (.ret (.c (.lit false)) [.cells 29 (Ty.enc tTrace (foldDo p t).1), .cells 46 (Ty.enc tIns ((foldDo p t).1.2.2.2.1.getD i tIns.dflt)), .cells 44 (Ty.enc tVal ((foldDo p t).1.2.2.2.1.getD (Int.toNat ((askF ((foldDo p t).1.2.2.2.1.getD i tIns.dflt)).getD 0 tI.dflt)) tIns.dflt).2.2.2.2.2.2), .cells 46 (Ty.enc tIns ((foldDo p t).1.2.2.2.1.getD (Int.toNat ((askF ((foldDo p t).1.2.2.2.1.getD i tIns.dflt)).getD 1 tI.dflt)) tIns.dflt))])
        (.need (inR .i64 (((i : Nat) : Int) + 1)) <|
         .stop (lp (bodyOf Tryd.f13) 0) (J4 (.junk :: .c (.ptr 0 0 0 0) :: J16 (J2 (.c (.int .i64 ((foldDo p t).1.2.2.2.1.length : Int)) :: .c (.int .i64 (((i : Nat) : Int) + 1)) :: J32 (J32 (J16 ([]))))))) [.cells 29 (Ty.enc tTrace (foldDo p t).1), .cells 46 (Ty.enc tIns ((foldDo p t).1.2.2.2.1.getD i tIns.dflt)), .cells 44 (Ty.enc tVal ((foldDo p t).1.2.2.2.1.getD (Int.toNat ((askF ((foldDo p t).1.2.2.2.1.getD i tIns.dflt)).getD 0 tI.dflt)) tIns.dflt).2.2.2.2.2.2), .cells 46 (Ty.enc tIns ((foldDo p t).1.2.2.2.1.getD (Int.toNat ((askF ((foldDo p t).1.2.2.2.1.getD i tIns.dflt)).getD 1 tI.dflt)) tIns.dflt))]))
       (.ite (decide ((0 : Int) < 0))
        (.ret (.c (.lit false)) [.cells 29 (Ty.enc tTrace (foldDo p t).1), .cells 46 (Ty.enc tIns ((foldDo p t).1.2.2.2.1.getD i tIns.dflt)), .cells 44 (Ty.enc tVal ((foldDo p t).1.2.2.2.1.getD (Int.toNat ((askF ((foldDo p t).1.2.2.2.1.getD i tIns.dflt)).getD 0 tI.dflt)) tIns.dflt).2.2.2.2.2.2), .cells 46 (Ty.enc tIns ((foldDo p t).1.2.2.2.1.getD (Int.toNat ((askF ((foldDo p t).1.2.2.2.1.getD i tIns.dflt)).getD 1 tI.dflt)) tIns.dflt))])
        (.need (inR .i64 (((i : Nat) : Int) + 1)) <|
         .stop (lp (bodyOf Tryd.f13) 0) (J4 (.junk :: .c (.ptr 0 0 0 0) :: J16 (J2 (.c (.int .i64 ((foldDo p t).1.2.2.2.1.length : Int)) :: .c (.int .i64 (((i : Nat) : Int) + 1)) :: J32 (J32 (J16 ([]))))))) [.cells 29 (Ty.enc tTrace (foldDo p t).1), .cells 46 (Ty.enc tIns ((foldDo p t).1.2.2.2.1.getD i tIns.dflt)), .cells 44 (Ty.enc tVal ((foldDo p t).1.2.2.2.1.getD (Int.toNat ((askF ((foldDo p t).1.2.2.2.1.getD i tIns.dflt)).getD 0 tI.dflt)) tIns.dflt).2.2.2.2.2.2), .cells 46 (Ty.enc tIns ((foldDo p t).1.2.2.2.1.getD (Int.toNat ((askF ((foldDo p t).1.2.2.2.1.getD i tIns.dflt)).getD 1 tI.dflt)) tIns.dflt))])))
      (.ite (decide (((foldDo p t).1.2.2.2.1.getD i tIns.dflt).1 = 4))
       (.ite (decide (((foldDo p t).1.2.2.2.1.getD (Int.toNat ((askF ((foldDo p t).1.2.2.2.1.getD i tIns.dflt)).getD 0 tI.dflt)) tIns.dflt).2.2.2.2.2.2.1 = ((foldDo p t).1.2.2.2.1.getD i tIns.dflt).2.2.2.2.1))
        (.ite (decide (((-1) : Int) < 0))
         (.ret (.c (.lit false)) [.cells 29 (Ty.enc tTrace (foldDo p t).1), .cells 46 (Ty.enc tIns ((foldDo p t).1.2.2.2.1.getD i tIns.dflt)), .cells 44 (Ty.enc tVal ((foldDo p t).1.2.2.2.1.getD (Int.toNat ((askF ((foldDo p t).1.2.2.2.1.getD i tIns.dflt)).getD 0 tI.dflt)) tIns.dflt).2.2.2.2.2.2)])
         (.need (inR .i64 (((i : Nat) : Int) + 1)) <|
          .stop (lp (bodyOf Tryd.f13) 0) (J4 (.junk :: .c (.ptr 0 0 0 0) :: J16 (J2 (.c (.int .i64 ((foldDo p t).1.2.2.2.1.length : Int)) :: .c (.int .i64 (((i : Nat) : Int) + 1)) :: J32 (J32 (J16 ([]))))))) [.cells 29 (Ty.enc tTrace (foldDo p t).1), .cells 46 (Ty.enc tIns ((foldDo p t).1.2.2.2.1.getD i tIns.dflt)), .cells 44 (Ty.enc tVal ((foldDo p t).1.2.2.2.1.getD (Int.toNat ((askF ((foldDo p t).1.2.2.2.1.getD i tIns.dflt)).getD 0 tI.dflt)) tIns.dflt).2.2.2.2.2.2)]))
        (.ite (decide ((0 : Int) < 0))
         (.ret (.c (.lit false)) [.cells 29 (Ty.enc tTrace (foldDo p t).1), .cells 46 (Ty.enc tIns ((foldDo p t).1.2.2.2.1.getD i tIns.dflt)), .cells 44 (Ty.enc tVal ((foldDo p t).1.2.2.2.1.getD (Int.toNat ((askF ((foldDo p t).1.2.2.2.1.getD i tIns.dflt)).getD 0 tI.dflt)) tIns.dflt).2.2.2.2.2.2)])
         (.need (inR .i64 (((i : Nat) : Int) + 1)) <|
          .stop (lp (bodyOf Tryd.f13) 0) (J4 (.junk :: .c (.ptr 0 0 0 0) :: J16 (J2 (.c (.int .i64 ((foldDo p t).1.2.2.2.1.length : Int)) :: .c (.int .i64 (((i : Nat) : Int) + 1)) :: J32 (J32 (J16 ([]))))))) [.cells 29 (Ty.enc tTrace (foldDo p t).1), .cells 46 (Ty.enc tIns ((foldDo p t).1.2.2.2.1.getD i tIns.dflt)), .cells 44 (Ty.enc tVal ((foldDo p t).1.2.2.2.1.getD (Int.toNat ((askF ((foldDo p t).1.2.2.2.1.getD i tIns.dflt)).getD 0 tI.dflt)) tIns.dflt).2.2.2.2.2.2)])))
       (.ite (decide (((foldDo p t).1.2.2.2.1.getD i tIns.dflt).1 = 6))
        (.ite ((decide (((foldDo p t).1.2.2.2.1.getD (Int.toNat ((askF ((foldDo p t).1.2.2.2.1.getD i tIns.dflt)).getD 0 tI.dflt)) tIns.dflt).2.2.2.2.2.2.1 = ((foldDo p t).1.2.2.2.1.getD i tIns.dflt).2.2.2.2.2.2.1) && (decide (((foldDo p t).1.2.2.2.1.getD (Int.toNat ((askF ((foldDo p t).1.2.2.2.1.getD i tIns.dflt)).getD 0 tI.dflt)) tIns.dflt).2.2.2.2.2.2.2 = ((foldDo p t).1.2.2.2.1.getD i tIns.dflt).2.2.2.2.2.2.2) && true)))
         (.ite (decide (((-1) : Int) < 0))
          (.ret (.c (.lit false)) [.cells 29 (Ty.enc tTrace (foldDo p t).1), .cells 46 (Ty.enc tIns ((foldDo p t).1.2.2.2.1.getD i tIns.dflt)), .cells 44 (Ty.enc tVal ((foldDo p t).1.2.2.2.1.getD (Int.toNat ((askF ((foldDo p t).1.2.2.2.1.getD i tIns.dflt)).getD 0 tI.dflt)) tIns.dflt).2.2.2.2.2.2)])
          (.need (inR .i64 (((i : Nat) : Int) + 1)) <|
           .stop (lp (bodyOf Tryd.f13) 0) (J4 (.junk :: .c (.ptr 0 0 0 0) :: J16 (J2 (.c (.int .i64 ((foldDo p t).1.2.2.2.1.length : Int)) :: .c (.int .i64 (((i : Nat) : Int) + 1)) :: J32 (J32 (J16 ([]))))))) [.cells 29 (Ty.enc tTrace (foldDo p t).1), .cells 46 (Ty.enc tIns ((foldDo p t).1.2.2.2.1.getD i tIns.dflt)), .cells 44 (Ty.enc tVal ((foldDo p t).1.2.2.2.1.getD (Int.toNat ((askF ((foldDo p t).1.2.2.2.1.getD i tIns.dflt)).getD 0 tI.dflt)) tIns.dflt).2.2.2.2.2.2)]))
         (.ite (decide ((0 : Int) < 0))
          (.ret (.c (.lit false)) [.cells 29 (Ty.enc tTrace (foldDo p t).1), .cells 46 (Ty.enc tIns ((foldDo p t).1.2.2.2.1.getD i tIns.dflt)), .cells 44 (Ty.enc tVal ((foldDo p t).1.2.2.2.1.getD (Int.toNat ((askF ((foldDo p t).1.2.2.2.1.getD i tIns.dflt)).getD 0 tI.dflt)) tIns.dflt).2.2.2.2.2.2)])
          (.need (inR .i64 (((i : Nat) : Int) + 1)) <|
           .stop (lp (bodyOf Tryd.f13) 0) (J4 (.junk :: .c (.ptr 0 0 0 0) :: J16 (J2 (.c (.int .i64 ((foldDo p t).1.2.2.2.1.length : Int)) :: .c (.int .i64 (((i : Nat) : Int) + 1)) :: J32 (J32 (J16 ([]))))))) [.cells 29 (Ty.enc tTrace (foldDo p t).1), .cells 46 (Ty.enc tIns ((foldDo p t).1.2.2.2.1.getD i tIns.dflt)), .cells 44 (Ty.enc tVal ((foldDo p t).1.2.2.2.1.getD (Int.toNat ((askF ((foldDo p t).1.2.2.2.1.getD i tIns.dflt)).getD 0 tI.dflt)) tIns.dflt).2.2.2.2.2.2)])))
        (.ite (decide ((0 : Int) < 0))
         (.ret (.c (.lit false)) [.cells 29 (Ty.enc tTrace (foldDo p t).1), .cells 46 (Ty.enc tIns ((foldDo p t).1.2.2.2.1.getD i tIns.dflt)), .cells 44 (Ty.enc tVal ((foldDo p t).1.2.2.2.1.getD (Int.toNat ((askF ((foldDo p t).1.2.2.2.1.getD i tIns.dflt)).getD 0 tI.dflt)) tIns.dflt).2.2.2.2.2.2)])
         (.need (inR .i64 (((i : Nat) : Int) + 1)) <|
          .stop (lp (bodyOf Tryd.f13) 0) (J4 (.junk :: .c (.ptr 0 0 0 0) :: J16 (J2 (.c (.int .i64 ((foldDo p t).1.2.2.2.1.length : Int)) :: .c (.int .i64 (((i : Nat) : Int) + 1)) :: J32 (J32 (J16 ([]))))))) [.cells 29 (Ty.enc tTrace (foldDo p t).1), .cells 46 (Ty.enc tIns ((foldDo p t).1.2.2.2.1.getD i tIns.dflt)), .cells 44 (Ty.enc tVal ((foldDo p t).1.2.2.2.1.getD (Int.toNat ((askF ((foldDo p t).1.2.2.2.1.getD i tIns.dflt)).getD 0 tI.dflt)) tIns.dflt).2.2.2.2.2.2)]))))))))
  (.call 15 [] false (.c (.bool true)) <|
   .ret (.c (.bool true)) [.cells 29 (Ty.enc tTrace (foldDo p t).1)])
theorem foldNone_l0_R_ok (p : EProg) (t : ETrace) (i : Nat) : aRound Tryd.prog oc_foldNone Tryd.f13 foldNone_lv 3000 (lp (bodyOf Tryd.f13) 0) (J4 (.junk :: .c (.ptr 0 0 0 0) :: J16 (J2 (.c (.int .i64 ((foldDo p t).1.2.2.2.1.length : Int)) :: .c (.int .i64 ((i : Nat) : Int)) :: J32 (J32 (J16 ([]))))))) [.cells 29 (Ty.enc tTrace (foldDo p t).1)] = foldNone_l0_R p t i := by kernel_rfl
theorem foldNone_l0 (p : EProg) (t : ETrace) (i : Nat) (he : (foldDo p t).2 = 0) (hi : i ≤ (foldDo p t).1.2.2.2.1.length) : Run Tryd.prog 13 (retQ Tryd.prog (.c (.bool (true)))) (lp (bodyOf Tryd.f13) 0) (J4 (.junk :: .c (.ptr 0 0 0 0) :: J16 (J2 (.c (.int .i64 ((foldDo p t).1.2.2.2.1.length : Int)) :: .c (.int .i64 ((i : Nat) : Int)) :: J32 (J32 (J16 ([]))))))) [.cells 29 (Ty.enc tTrace (foldDo p t).1)] :=
  Run.roundA oc_foldNone foldNone_lv 3000 Tryd.func13 mixed (foldNone_l0_R p t i) (foldNone_l0_R_ok p t i) (by
    unfold foldNone_l0_R
    obtain ⟨hin, _⟩ := fold_law he
    have hA : ∀ j, j < (foldDo p t).1.2.2.2.1.length → FoldAsk (foldDo p t).1.2.2.2.1 j := fun j hj => fold_ask he hj
    refine g_iteD (fun h0 => ?_) (fun h0 => ?_)
    · refine g_need (by omega) ?_
      refine g_need (by omega) ?_
      refine g_call (asks_fun ((foldDo p t).1.2.2.2.1.getD i tIns.dflt)) (fun h => nomatch h) ?_
      refine g_iteD (fun h1 => ?_) (fun h1 => ?_)
      · refine g_need (by rw [i64_iff]; omega) ?_
        refine g_stop (RunN.keep [0] (F4 (false :: true :: F16 (F2 (true :: true :: F32 (F32 (F16 ([]))))))) n0 (by decide) rfl rfl ?_)
        exact foldNone_l0 p t (i + 1) he (by omega)
      · refine g_need (by omega) ?_
        refine g_need (by omega) ?_
        refine g_need (by have q := (hA i (by omega)).a0 (by omega); first | omega | (constructor <;> omega)) ?_
        refine g_need (by have q := (hA i (by omega)).a0 (by omega); first | omega | (constructor <;> omega)) ?_
        refine g_iteND (fun h2 => ?_) (fun h2 => ?_)
        · refine g_need (by rw [i64_iff]; omega) ?_
          refine g_stop (RunN.keep [0] (F4 (false :: true :: F16 (F2 (true :: true :: F32 (F32 (F16 ([]))))))) n0 (by decide) rfl rfl ?_)
          exact foldNone_l0 p t (i + 1) he (by omega)
        · refine g_need (by omega) ?_
          refine g_need (by omega) ?_
          refine g_need (by have q := (hA i (by omega)).a0 (by omega); first | omega | (constructor <;> omega)) ?_
          refine g_need (by have q := (hA i (by omega)).a0 (by omega); first | omega | (constructor <;> omega)) ?_
          refine g_iteD (fun h3 => ?_) (fun h3 => ?_)
          · refine g_call (unaryV_fun ((foldDo p t).1.2.2.2.1.getD i tIns.dflt).2.2.2.2.1 ((foldDo p t).1.2.2.2.1.getD (Int.toNat ((askF ((foldDo p t).1.2.2.2.1.getD i tIns.dflt)).getD 0 tI.dflt)) tIns.dflt).2.2.2.2.2.2) (fun h => nomatch h) ?_
            refine g_iteD (fun h4 => ?_) (fun h4 => ?_)
            · refine g_rq ?_
              exact g_rl ((show (false : Bool) = true from by exact ((hA i (by omega)).l8 (by assumption) (by assumption) (by assumption)).elim)) rfl
            · refine g_need (by rw [i64_iff]; omega) ?_
              refine g_stop (RunN.keep [0] (F4 (false :: true :: F16 (F2 (true :: true :: F32 (F32 (F16 ([]))))))) n0 (by decide) rfl rfl ?_)
              exact foldNone_l0 p t (i + 1) he (by omega)
          · refine g_iteD (fun h4 => ?_) (fun h4 => ?_)
            · refine g_need (by have q := (hA i (by omega)).a1 (by assumption); first | omega | (constructor <;> omega)) ?_
              refine g_need (by have q := (hA i (by omega)).a1 (by assumption); first | omega | (constructor <;> omega)) ?_
              refine g_need (by have q := (hA i (by omega)).a1 (by assumption); first | omega | (constructor <;> omega)) ?_
              refine g_need (by have q := (hA i (by omega)).a1 (by assumption); first | omega | (constructor <;> omega)) ?_
              refine g_iteD (fun h5 => ?_) (fun h5 => ?_)
              · refine g_call (binaryV_fun ((foldDo p t).1.2.2.2.1.getD i tIns.dflt).2.2.2.2.1 ((foldDo p t).1.2.2.2.1.getD (Int.toNat ((askF ((foldDo p t).1.2.2.2.1.getD i tIns.dflt)).getD 0 tI.dflt)) tIns.dflt).2.2.2.2.2.2 ((foldDo p t).1.2.2.2.1.getD (Int.toNat ((askF ((foldDo p t).1.2.2.2.1.getD i tIns.dflt)).getD 1 tI.dflt)) tIns.dflt).2.2.2.2.2.2) (fun h => nomatch h) ?_
                refine g_iteD (fun h6 => ?_) (fun h6 => ?_)
                · refine g_rq ?_
                  exact g_rl ((show (false : Bool) = true from by exact ((hA i (by omega)).l7 (by assumption) (by assumption) (by assumption) (by assumption)).elim)) rfl
                · refine g_need (by rw [i64_iff]; omega) ?_
                  refine g_stop (RunN.keep [0] (F4 (false :: true :: F16 (F2 (true :: true :: F32 (F32 (F16 ([]))))))) n0 (by decide) rfl rfl ?_)
                  exact foldNone_l0 p t (i + 1) he (by omega)
              · refine g_iteD (fun h6 => ?_) (fun h6 => ?_)
                · refine g_rq ?_
                  exact g_rl ((show (false : Bool) = true from by exfalso; omega)) rfl
                · refine g_need (by rw [i64_iff]; omega) ?_
                  refine g_stop (RunN.keep [0] (F4 (false :: true :: F16 (F2 (true :: true :: F32 (F32 (F16 ([]))))))) n0 (by decide) rfl rfl ?_)
                  exact foldNone_l0 p t (i + 1) he (by omega)
            · refine g_iteD (fun h5 => ?_) (fun h5 => ?_)
              · refine g_iteD (fun h6 => ?_) (fun h6 => ?_)
                · refine g_iteD (fun h7 => ?_) (fun h7 => ?_)
                  · refine g_rq ?_
                    exact g_rl ((show (false : Bool) = true from by exact ((hA i (by omega)).l4 (by assumption) (by assumption) (by assumption)).elim)) rfl
                  · refine g_need (by omega) ?_
                    refine g_stop (RunN.keep [0] (F4 (false :: true :: F16 (F2 (true :: true :: F32 (F32 (F16 ([]))))))) n0 (by decide) rfl rfl ?_)
                    exact foldNone_l0 p t (i + 1) he (by omega)
                · refine g_iteD (fun h7 => ?_) (fun h7 => ?_)
                  · refine g_rq ?_
                    exact g_rl ((show (false : Bool) = true from by exfalso; omega)) rfl
                  · refine g_need (by rw [i64_iff]; omega) ?_
                    refine g_stop (RunN.keep [0] (F4 (false :: true :: F16 (F2 (true :: true :: F32 (F32 (F16 ([]))))))) n0 (by decide) rfl rfl ?_)
                    exact foldNone_l0 p t (i + 1) he (by omega)
              · refine g_iteD (fun h6 => ?_) (fun h6 => ?_)
                · refine g_ite (fun h7 => ?_) (fun h7 => ?_)
                  · refine g_iteD (fun h8 => ?_) (fun h8 => ?_)
                    · refine g_rq ?_
                      exact g_rl ((show (false : Bool) = true from by have q := (hA i (by omega)).l6 (by assumption) (by assumption); exfalso; simp_all)) rfl
                    · refine g_need (by omega) ?_
                      refine g_stop (RunN.keep [0] (F4 (false :: true :: F16 (F2 (true :: true :: F32 (F32 (F16 ([]))))))) n0 (by decide) rfl rfl ?_)
                      exact foldNone_l0 p t (i + 1) he (by omega)
                  · refine g_iteD (fun h8 => ?_) (fun h8 => ?_)
                    · refine g_rq ?_
                      exact g_rl ((show (false : Bool) = true from by have q := (hA i (by omega)).l6 (by assumption) (by assumption); exfalso; simp_all)) rfl
                    · refine g_need (by rw [i64_iff]; omega) ?_
                      refine g_stop (RunN.keep [0] (F4 (false :: true :: F16 (F2 (true :: true :: F32 (F32 (F16 ([]))))))) n0 (by decide) rfl rfl ?_)
                      exact foldNone_l0 p t (i + 1) he (by omega)
                · refine g_iteD (fun h7 => ?_) (fun h7 => ?_)
                  · refine g_rq ?_
                    exact g_rl ((show (false : Bool) = true from by exfalso; omega)) rfl
                  · refine g_need (by rw [i64_iff]; omega) ?_
                    refine g_stop (RunN.keep [0] (F4 (false :: true :: F16 (F2 (true :: true :: F32 (F32 (F16 ([]))))))) n0 (by decide) rfl rfl ?_)
                    exact foldNone_l0 p t (i + 1) he (by omega)
    · refine g_call (irred_fun) (fun h => nomatch h) ?_
      refine g_rq ?_
      exact g_rl (leAV.refl _) rfl
    )
  termination_by (foldDo p t).1.2.2.2.1.length - i
  decreasing_by all_goals omega
theorem foldNone_fun (p : EProg) (t : ETrace) : AFun Tryd.prog 13 [.agg (tProg.enc p), .agg (tTrace.enc t)] (.c (.bool (true))) :=
  AFun.of oc_foldNone foldNone_lv 3000 Tryd.func13 mixed rfl (by decide) (Nat.le_of_ble_eq_true rfl) _ (foldNone_T_ok p t) fun hF => by
    unfold foldNone_T
    refine g_call (folddo_fun p t) (fun h => nomatch h) ?_
    refine g_iteND (fun h0 => ?_) (fun h0 => ?_)
    · refine g_call (irred_fun) (fun h => nomatch h) ?_
      refine g_rq ?_
      exact g_rl (leAV.refl _) rfl
    · refine g_stop (RunN.keep [2] (F4 (false :: true :: F16 (F2 (true :: true :: F32 (F32 (F16 ([]))))))) n0 (by decide) rfl rfl ?_)
      exact foldNone_l0 p t 0 (by exact h0) (by omega)

end Go.Proofs.YtefkifdhjabdiaaDoor
