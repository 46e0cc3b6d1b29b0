/- What the laws' texts lean on, part 5: lemmas and the contracts of functions. No condition. -/
import Derived.Test.YtefkifdhjabdiaaDoorM1
import Derived.Test.YtefkifdhjabdiaaDoorM3
import Derived.Test.YtefkifdhjabdiaaDoorM2
namespace Go.Proofs.YtefkifdhjabdiaaDoor
set_option linter.unusedVariables false
set_option linter.unusedSimpArgs false
set_option maxRecDepth 100000
def cutOne (at_ : List Int) (v : Int) : Int × Bool := if v < 0 then (-1, false) else if (at_.length : Int) ≤ v then (-1, false) else if at_.getD v.toNat tI.dflt < 0 then (-1, false) else (at_.getD v.toNat tI.dflt, true)
noncomputable def oc20 : Orc where
  pure := fun f args => match f, args with
    | _, _ => none
  heap := fun _ _ _ => none
def one_lv : LV := ⟨([]), []⟩
noncomputable def one_T (at_ : List Int) (fine : Bool) (v : Int) : Tree :=
  .ite (decide (v < 0))
  (.ret (.c (.int .i64 (-1))) [.cells 97 [.osl 1 1 at_.length, .lit false], .ovec 3 tI at_])
  (.ite (decide (((at_.length : Nat) : Int) ≤ v))
   (.ret (.c (.int .i64 (-1))) [.cells 97 [.osl 1 1 at_.length, .lit false], .ovec 3 tI at_])
   (.need ((0 : Int) ≤ v ∧ (v : Int) < ((at_.length : Nat) : Int)) <|
    .need ((Int.toNat v) < at_.length) <|
    .ite (decide ((at_.getD (Int.toNat v) tI.dflt) < 0))
    (.ret (.c (.int .i64 (-1))) [.cells 97 [.osl 1 1 at_.length, .lit false], .ovec 3 tI at_])
    (.need ((0 : Int) ≤ v ∧ (v : Int) < ((at_.length : Nat) : Int)) <|
     .need ((Int.toNat v) < at_.length) <|
     .ret (.c (.int .i64 (at_.getD (Int.toNat v) tI.dflt))) [.cells 97 [.osl 1 1 at_.length, .bool fine], .ovec 3 tI at_])))
theorem one_T_ok (at_ : List Int) (fine : Bool) (v : Int) : aRun Tryd.prog oc20 Tryd.f88 one_lv 3000 [.code (bodyOf Tryd.f88)] ([.c (.ptr 0 0 0 0), .c (.int .i64 v)] ++ List.replicate (Func.ntmps Tryd.f88 - 2) .junk) [.cells 97 [.osl 1 1 at_.length, .bool fine], .ovec 3 tI at_] = one_T at_ fine v := by kernel_rfl
theorem one_fun (at_ : List Int) (fine : Bool) (v : Int) : AFunH Tryd.prog 88 [.c (.ptr 0 0 0 0), .c (.int .i64 v)] [.cells 97 [.osl 1 1 at_.length, .bool fine], .ovec 3 tI at_] (.c (.int .i64 ((cutOne at_ v).1))) [.cells 97 [.osl 1 1 at_.length, .bool (fine && (cutOne at_ v).2)], .ovec 3 tI at_] (List.range 2) :=
  AFunH.ofL oc20 one_lv 3000 Tryd.func88 mixed rfl (by decide) (Nat.le_of_ble_eq_true rfl) rfl rfl (Nat.le_of_ble_eq_true rfl) _ (one_T_ok at_ fine v) fun hF => by
    unfold one_T
    refine g_iteD (fun h0 => ?_) (fun h0 => ?_)
    · refine g_fin ?_
      exact g_end [0, 1] (show ∀ k, k < 2 → ([0, 1] : List Nat)[k]? = some k by decide) (by decide) (⟨rfl, (show ((-1) : Int) = (cutOne at_ v).1 from by simp only [cutOne, h0, if_true, if_false, Bool.and_false, Bool.and_true])⟩) ⟨⟨rfl, leC.refl _, (show (false : Bool) = (fine && (cutOne at_ v).2) from by simp only [cutOne, h0, if_true, if_false, Bool.and_false, Bool.and_true]), trivial⟩, leB.refl _, trivial⟩
    · refine g_iteD (fun h1 => ?_) (fun h1 => ?_)
      · refine g_fin ?_
        exact g_end [0, 1] (show ∀ k, k < 2 → ([0, 1] : List Nat)[k]? = some k by decide) (by decide) (⟨rfl, (show ((-1) : Int) = (cutOne at_ v).1 from by simp only [cutOne, h0, h1, if_true, if_false, Bool.and_false, Bool.and_true])⟩) ⟨⟨rfl, leC.refl _, (show (false : Bool) = (fine && (cutOne at_ v).2) from by simp only [cutOne, h0, h1, if_true, if_false, Bool.and_false, Bool.and_true]), trivial⟩, leB.refl _, trivial⟩
      · refine g_need (by omega) ?_
        refine g_need (by omega) ?_
        refine g_iteD (fun h2 => ?_) (fun h2 => ?_)
        · refine g_fin ?_
          exact g_end [0, 1] (show ∀ k, k < 2 → ([0, 1] : List Nat)[k]? = some k by decide) (by decide) (⟨rfl, (show ((-1) : Int) = (cutOne at_ v).1 from by simp only [cutOne, h0, h1, h2, if_true, if_false, Bool.and_false, Bool.and_true])⟩) ⟨⟨rfl, leC.refl _, (show (false : Bool) = (fine && (cutOne at_ v).2) from by simp only [cutOne, h0, h1, h2, if_true, if_false, Bool.and_false, Bool.and_true]), trivial⟩, leB.refl _, trivial⟩
        · refine g_need (by omega) ?_
          refine g_need (by omega) ?_
          refine g_fin ?_
          exact g_end [0, 1] (show ∀ k, k < 2 → ([0, 1] : List Nat)[k]? = some k by decide) (by decide) (⟨rfl, (show ((at_.getD (Int.toNat v) tI.dflt) : Int) = (cutOne at_ v).1 from by simp only [cutOne, h0, h1, h2, if_true, if_false, Bool.and_false, Bool.and_true])⟩) ⟨⟨rfl, leC.refl _, (show (fine : Bool) = (fine && (cutOne at_ v).2) from by simp only [cutOne, h0, h1, h2, if_true, if_false, Bool.and_false, Bool.and_true]), trivial⟩, leB.refl _, trivial⟩

def cutSet (at_ : List Int) (s : EVal) : EVal := (s.1, (cutOne at_ s.2).1)
def cutSetOk (at_ : List Int) (s : EVal) : Bool := (cutOne at_ s.2).2
def cutMake (at_ : List Int) (m : EMake) : EMake := ((cutOne at_ m.1).1, m.2.1, m.2.2.1, m.2.2.2.map fun v => (cutOne at_ v).1)
def cutMakeOk (at_ : List Int) (m : EMake) : Bool := (cutOne at_ m.1).2 && m.2.2.2.all fun v => (cutOne at_ v).2
def cutExit (at_ : List Int) (x : EExit) : EExit := (x.1, x.2.1, x.2.2.1.map (cutSet at_), x.2.2.2.map (cutMake at_))
def cutExitOk (at_ : List Int) (x : EExit) : Bool := x.2.2.1.all (cutSetOk at_) && x.2.2.2.all (cutMakeOk at_)
/-- An exit of a size that can be. -/
def exitSm (x : EExit) : Prop := x.2.2.1.length ≤ 1000000 ∧ x.2.2.2.length ≤ 1000000 ∧ ∀ m ∈ x.2.2.2, m.2.2.2.length ≤ 1000000
noncomputable def oc21 : Orc where
  pure := fun f args => match f, args with
    | _, _ => none
  heap := fun f args H => match f, args with
    | 88, [.one (.c (.ptr b0 0 0 0)), a1] => match cellsAs 97 H[b0]? with
      | some [.osl b1 1 _, c0_1] => (match dA tI a1, dC .bool c0_1, ovecAs 3 tI H[b1]? with
        | some x1, some y0_1, some y1 => hres [b0, b1] H (.c (.int .i64 ((cutOne y1 x1).1))) [.cells 97 [.osl 1 1 y1.length, .bool (y0_1 && (cutOne y1 x1).2)], .ovec 3 tI y1]
        | _, _, _ => none)
      | _ => none
    | _, _ => none
def cexit_lv : LV := ⟨(true :: F2 (true :: true :: true :: F4 (true :: F8 (true :: true :: true :: F16 (false :: true :: true :: true :: F8 (F4 (false :: true :: true :: true :: F16 (F4 ([]))))))))), []⟩
noncomputable def cexit_T (at_ : List Int) (fine : Bool) (x : EExit) : Tree :=
  .stop (lp (bodyOf Tryd.f49) 0) (.c (.ptr 0 0 0 0) :: J2 (.c (.ptr 2 0 0 0) :: .c (.ptr 3 0 0 0) :: .c (.ptr 4 0 0 0) :: J8 (J4 (.junk :: .c (.ro tVal x.2.2.1) :: .c (.int .i64 (x.2.2.1.length : Int)) :: .c (.int .i64 0) :: J32 (J16 (J8 ([]))))))) [.cells 97 [.osl 1 1 at_.length, .bool fine], .ovec 3 tI at_, .cells 27 (Ty.enc tExit x), .cells 27 [.int .i64 0, .int .i64 0, .nilsl, .nilsl], .cells 27 [.int .i64 x.1, .int .i64 x.2.1, .nilsl, .nilsl]]
theorem cexit_T_ok (at_ : List Int) (fine : Bool) (x : EExit) : aRun Tryd.prog oc21 Tryd.f49 cexit_lv 3000 [.code (bodyOf Tryd.f49)] ([.c (.ptr 0 0 0 0), .agg (tExit.enc x)] ++ List.replicate (Func.ntmps Tryd.f49 - 2) .junk) [.cells 97 [.osl 1 1 at_.length, .bool fine], .ovec 3 tI at_] = cexit_T at_ fine x := by kernel_rfl
noncomputable def cexit_l0_R (at_ : List Int) (fine : Bool) (x : EExit) (i : Nat) (f : Bool) (ss : List EVal) : Tree :=
  .ite (decide (((i : Nat) : Int) < (x.2.2.1.length : Int)))
  (.need ((0 : Int) ≤ ((i : Nat) : Int) ∧ (((i : Nat) : Int) : Int) < (x.2.2.1.length : Int)) <|
   .need (i < x.2.2.1.length) <|
   .callH 88 [.c (.ptr 0 0 0 0), .c (.int .i64 (x.2.2.1.getD i tVal.dflt).2)] [.cells 97 [.osl 1 1 at_.length, .bool f], .ovec 3 tI at_, .cells 27 (Ty.enc tExit x), .cells 27 [.int .i64 0, .int .i64 0, .nilsl, .nilsl], .cells 27 [.int .i64 x.1, .int .i64 x.2.1, .osl 5 2 ss.length, .nilsl], .ovec 116 tVal ss, .cells 116 [.int .i64 (x.2.2.1.getD i tVal.dflt).1, .int .i64 (x.2.2.1.getD i tVal.dflt).2]] (.c (.int .i64 (cutOne at_ (x.2.2.1.getD i tVal.dflt).2).1)) [.cells 97 [.osl 1 1 at_.length, .bool (f && (cutOne at_ (x.2.2.1.getD i tVal.dflt).2).2)], .ovec 3 tI at_, .cells 27 (Ty.enc tExit x), .cells 27 [.int .i64 0, .int .i64 0, .nilsl, .nilsl], .cells 27 [.int .i64 x.1, .int .i64 x.2.1, .osl 5 2 ss.length, .nilsl], .ovec 116 tVal ss, .cells 116 [.int .i64 (x.2.2.1.getD i tVal.dflt).1, .int .i64 (x.2.2.1.getD i tVal.dflt).2]] [0, 1] <|
   .need (ss.length = ss.length) <|
   .need (0 = 0 ∧ 1 = ([((x.2.2.1.getD i tVal.dflt).1, (cutOne at_ (x.2.2.1.getD i tVal.dflt).2).1)]).length) <|
   .need ((ss.length + ([((x.2.2.1.getD i tVal.dflt).1, (cutOne at_ (x.2.2.1.getD i tVal.dflt).2).1)]).length) * 16 ≤ 140737488355328) <|
   .need (inR .i64 (((i : Nat) : Int) + 1)) <|
   .stop (lp (bodyOf Tryd.f49) 0) (.c (.ptr 0 0 0 0) :: J2 (.c (.ptr 2 0 0 0) :: .c (.ptr 3 0 0 0) :: .c (.ptr 4 0 0 0) :: J8 (J4 (.junk :: .c (.ro tVal x.2.2.1) :: .c (.int .i64 (x.2.2.1.length : Int)) :: .c (.int .i64 (((i : Nat) : Int) + 1)) :: J32 (J16 (J8 ([]))))))) [.cells 97 [.osl 1 1 at_.length, .bool (f && (cutOne at_ (x.2.2.1.getD i tVal.dflt).2).2)], .ovec 3 tI at_, .cells 27 (Ty.enc tExit x), .cells 27 [.int .i64 0, .int .i64 0, .nilsl, .nilsl], .cells 27 [.int .i64 x.1, .int .i64 x.2.1, .osl 8 2 (ss ++ [((x.2.2.1.getD i tVal.dflt).1, (cutOne at_ (x.2.2.1.getD i tVal.dflt).2).1)]).length, .nilsl], .dead, .cells 116 [.int .i64 (x.2.2.1.getD i tVal.dflt).1, .int .i64 (x.2.2.1.getD i tVal.dflt).2], .vec 116 tVal ([((x.2.2.1.getD i tVal.dflt).1, (cutOne at_ (x.2.2.1.getD i tVal.dflt).2).1)]), .ovec 116 tVal (ss ++ [((x.2.2.1.getD i tVal.dflt).1, (cutOne at_ (x.2.2.1.getD i tVal.dflt).2).1)])])
  (.stop (lp (bodyOf Tryd.f49) 1) (.c (.ptr 0 0 0 0) :: J2 (.c (.ptr 2 0 0 0) :: .c (.ptr 3 0 0 0) :: .c (.ptr 4 0 0 0) :: J8 (J4 (.junk :: .c (.ro tVal x.2.2.1) :: .c (.int .i64 (x.2.2.1.length : Int)) :: .c (.int .i64 ((i : Nat) : Int)) :: J16 (.junk :: .c (.ro tMake x.2.2.2) :: .c (.int .i64 (x.2.2.2.length : Int)) :: .c (.int .i64 0) :: J32 (J4 ([]))))))) [.cells 97 [.osl 1 1 at_.length, .bool f], .ovec 3 tI at_, .cells 27 (Ty.enc tExit x), .cells 27 [.int .i64 0, .int .i64 0, .nilsl, .nilsl], .cells 27 [.int .i64 x.1, .int .i64 x.2.1, .osl 5 2 ss.length, .nilsl], .ovec 116 tVal ss])
theorem cexit_l0_R_ok (at_ : List Int) (fine : Bool) (x : EExit) (i : Nat) (f : Bool) (ss : List EVal) : aRound Tryd.prog oc21 Tryd.f49 cexit_lv 3000 (lp (bodyOf Tryd.f49) 0) (.c (.ptr 0 0 0 0) :: J2 (.c (.ptr 2 0 0 0) :: .c (.ptr 3 0 0 0) :: .c (.ptr 4 0 0 0) :: J8 (J4 (.junk :: .c (.ro tVal x.2.2.1) :: .c (.int .i64 (x.2.2.1.length : Int)) :: .c (.int .i64 ((i : Nat) : Int)) :: J32 (J16 (J8 ([]))))))) [.cells 97 [.osl 1 1 at_.length, .bool f], .ovec 3 tI at_, .cells 27 (Ty.enc tExit x), .cells 27 [.int .i64 0, .int .i64 0, .nilsl, .nilsl], .cells 27 [.int .i64 x.1, .int .i64 x.2.1, .osl 5 2 ss.length, .nilsl], .ovec 116 tVal ss] = cexit_l0_R at_ fine x i f ss := by kernel_rfl
abbrev bCl0 (x : EExit) (j : Nat) : AB := .cells 118 [.int .i64 (x.2.2.2.getD j tMake.dflt).1, .int .i64 (x.2.2.2.getD j tMake.dflt).2.1, .int .i64 (x.2.2.2.getD j tMake.dflt).2.2.1, .ro tI (x.2.2.2.getD j tMake.dflt).2.2.2]
abbrev bCl6 (x : EExit) (ss : List EVal) (ms : List EMake) : AB := .cells 27 [.int .i64 x.1, .int .i64 x.2.1, .osl 4 2 ss.length, .osl 5 4 ms.length]
noncomputable def cexit_l1_R (at_ : List Int) (fine : Bool) (x : EExit) (j : Nat) (f : Bool) (ss : List EVal) (ms : List EMake) : Tree :=
  .ite (decide (((j : Nat) : Int) < (x.2.2.2.length : Int)))
  (.need ((0 : Int) ≤ ((j : Nat) : Int) ∧ (((j : Nat) : Int) : Int) < (x.2.2.2.length : Int)) <|
   .need (j < x.2.2.2.length) <|
   .callH 88 [.c (.ptr 0 0 0 0), .c (.int .i64 (x.2.2.2.getD j tMake.dflt).1)] [.cells 97 [.osl 1 1 at_.length, .bool f], .ovec 3 tI at_, .cells 27 [.int .i64 0, .int .i64 0, .nilsl, .nilsl], (bCl6 x ss ms), .ovec 116 tVal ss, .ovec 118 tMake ms, (bCl0 x j)] (.c (.int .i64 (cutOne at_ (x.2.2.2.getD j tMake.dflt).1).1)) [.cells 97 [.osl 1 1 at_.length, .bool (f && (cutOne at_ (x.2.2.2.getD j tMake.dflt).1).2)], .ovec 3 tI at_, .cells 27 [.int .i64 0, .int .i64 0, .nilsl, .nilsl], (bCl6 x ss ms), .ovec 116 tVal ss, .ovec 118 tMake ms, (bCl0 x j)] [0, 1] <|
   .stop (lp (bodyOf Tryd.f49) 2) (.c (.ptr 0 0 0 0) :: J2 (.junk :: .c (.ptr 2 0 0 0) :: .c (.ptr 3 0 0 0) :: J4 (.c (.ptr 7 0 0 0) :: J16 (J8 (J4 (.c (.ro tMake x.2.2.2) :: .c (.int .i64 (x.2.2.2.length : Int)) :: .c (.int .i64 ((j : Nat) : Int)) :: J8 (J4 (.junk :: .c (.ro tI (x.2.2.2.getD j tMake.dflt).2.2.2) :: .c (.int .i64 ((x.2.2.2.getD j tMake.dflt).2.2.2.length : Int)) :: .c (.int .i64 0) :: J16 (J4 ([])))))))))) [.cells 97 [.osl 1 1 at_.length, .bool (f && (cutOne at_ (x.2.2.2.getD j tMake.dflt).1).2)], .ovec 3 tI at_, .cells 27 [.int .i64 0, .int .i64 0, .nilsl, .nilsl], (bCl6 x ss ms), .ovec 116 tVal ss, .ovec 118 tMake ms, (bCl0 x j), .cells 118 [.int .i64 (cutOne at_ (x.2.2.2.getD j tMake.dflt).1).1, .int .i64 (x.2.2.2.getD j tMake.dflt).2.1, .int .i64 (x.2.2.2.getD j tMake.dflt).2.2.1, .nilsl]])
  (.ret (.agg [.int .i64 x.1, .int .i64 x.2.1, .osl 4 2 ss.length, .osl 5 4 ms.length]) [.cells 97 [.osl 1 1 at_.length, .bool f], .ovec 3 tI at_, (bCl6 x ss ms), (bCl6 x ss ms), .ovec 116 tVal ss, .ovec 118 tMake ms])
theorem cexit_l1_R_ok (at_ : List Int) (fine : Bool) (x : EExit) (j : Nat) (f : Bool) (ss : List EVal) (ms : List EMake) : aRound Tryd.prog oc21 Tryd.f49 cexit_lv 3000 (lp (bodyOf Tryd.f49) 1) (.c (.ptr 0 0 0 0) :: J2 (.junk :: .c (.ptr 2 0 0 0) :: .c (.ptr 3 0 0 0) :: J32 (.junk :: .c (.ro tMake x.2.2.2) :: .c (.int .i64 (x.2.2.2.length : Int)) :: .c (.int .i64 ((j : Nat) : Int)) :: J32 (J4 ([]))))) [.cells 97 [.osl 1 1 at_.length, .bool f], .ovec 3 tI at_, .cells 27 [.int .i64 0, .int .i64 0, .nilsl, .nilsl], (bCl6 x ss ms), .ovec 116 tVal ss, .ovec 118 tMake ms] = cexit_l1_R at_ fine x j f ss ms := by kernel_rfl
abbrev bCl1 (x : EExit) (j : Nat) (k : Nat) : List AV := (J4 (.junk :: .c (.ro tI (x.2.2.2.getD j tMake.dflt).2.2.2) :: .c (.int .i64 ((x.2.2.2.getD j tMake.dflt).2.2.2.length : Int)) :: .c (.int .i64 ((k : Nat) : Int)) :: J16 (J4 ([]))))
abbrev bCl2 (at_ : List Int) (x : EExit) (j : Nat) (vs : List Int) : AB := .cells 118 [.int .i64 (cutOne at_ (x.2.2.2.getD j tMake.dflt).1).1, .int .i64 (x.2.2.2.getD j tMake.dflt).2.1, .int .i64 (x.2.2.2.getD j tMake.dflt).2.2.1, .osl 7 1 vs.length]
noncomputable def cexit_l2_R (at_ : List Int) (fine : Bool) (x : EExit) (k : Nat) (j : Nat) (f : Bool) (ss : List EVal) (ms : List EMake) (vs : List Int) : Tree :=
  .ite (decide (((k : Nat) : Int) < ((x.2.2.2.getD j tMake.dflt).2.2.2.length : Int)))
  (.need ((0 : Int) ≤ ((k : Nat) : Int) ∧ (((k : Nat) : Int) : Int) < ((x.2.2.2.getD j tMake.dflt).2.2.2.length : Int)) <|
   .need (k < (x.2.2.2.getD j tMake.dflt).2.2.2.length) <|
   .callH 88 [.c (.ptr 0 0 0 0), .c (.int .i64 ((x.2.2.2.getD j tMake.dflt).2.2.2.getD k tI.dflt))] [.cells 97 [.osl 1 1 at_.length, .bool f], .ovec 3 tI at_, .cells 27 [.int .i64 0, .int .i64 0, .nilsl, .nilsl], (bCl6 x ss ms), .ovec 116 tVal ss, .ovec 118 tMake ms, (bCl2 at_ x j vs), .ovec 3 tI vs] (.c (.int .i64 (cutOne at_ ((x.2.2.2.getD j tMake.dflt).2.2.2.getD k tI.dflt)).1)) [.cells 97 [.osl 1 1 at_.length, .bool (f && (cutOne at_ ((x.2.2.2.getD j tMake.dflt).2.2.2.getD k tI.dflt)).2)], .ovec 3 tI at_, .cells 27 [.int .i64 0, .int .i64 0, .nilsl, .nilsl], (bCl6 x ss ms), .ovec 116 tVal ss, .ovec 118 tMake ms, (bCl2 at_ x j vs), .ovec 3 tI vs] [0, 1] <|
   .need (vs.length = vs.length) <|
   .need (0 = 0 ∧ 1 = ([(cutOne at_ ((x.2.2.2.getD j tMake.dflt).2.2.2.getD k tI.dflt)).1]).length) <|
   .need ((vs.length + ([(cutOne at_ ((x.2.2.2.getD j tMake.dflt).2.2.2.getD k tI.dflt)).1]).length) * 8 ≤ 140737488355328) <|
   .need (inR .i64 (((k : Nat) : Int) + 1)) <|
   .stop (lp (bodyOf Tryd.f49) 2) (.c (.ptr 0 0 0 0) :: J2 (.junk :: .c (.ptr 2 0 0 0) :: .c (.ptr 3 0 0 0) :: J4 (.c (.ptr 6 0 0 0) :: J16 (J8 (J4 (.c (.ro tMake x.2.2.2) :: .c (.int .i64 (x.2.2.2.length : Int)) :: .c (.int .i64 ((j : Nat) : Int)) :: J8 (J4 (.junk :: .c (.ro tI (x.2.2.2.getD j tMake.dflt).2.2.2) :: .c (.int .i64 ((x.2.2.2.getD j tMake.dflt).2.2.2.length : Int)) :: .c (.int .i64 (((k : Nat) : Int) + 1)) :: J16 (J4 ([])))))))))) [.cells 97 [.osl 1 1 at_.length, .bool (f && (cutOne at_ ((x.2.2.2.getD j tMake.dflt).2.2.2.getD k tI.dflt)).2)], .ovec 3 tI at_, .cells 27 [.int .i64 0, .int .i64 0, .nilsl, .nilsl], (bCl6 x ss ms), .ovec 116 tVal ss, .ovec 118 tMake ms, .cells 118 [.int .i64 (cutOne at_ (x.2.2.2.getD j tMake.dflt).1).1, .int .i64 (x.2.2.2.getD j tMake.dflt).2.1, .int .i64 (x.2.2.2.getD j tMake.dflt).2.2.1, .osl 9 1 (vs ++ [(cutOne at_ ((x.2.2.2.getD j tMake.dflt).2.2.2.getD k tI.dflt)).1]).length], .dead, .vec 3 tI ([(cutOne at_ ((x.2.2.2.getD j tMake.dflt).2.2.2.getD k tI.dflt)).1]), .ovec 3 tI (vs ++ [(cutOne at_ ((x.2.2.2.getD j tMake.dflt).2.2.2.getD k tI.dflt)).1])])
  (.need (vs.length = vs.length) <|
   .need (ms.length = ms.length) <|
   .need (0 = 0 ∧ 1 = ([((cutOne at_ (x.2.2.2.getD j tMake.dflt).1).1, ((x.2.2.2.getD j tMake.dflt).2.1, ((x.2.2.2.getD j tMake.dflt).2.2.1, vs)))]).length) <|
   .need ((ms.length + ([((cutOne at_ (x.2.2.2.getD j tMake.dflt).1).1, ((x.2.2.2.getD j tMake.dflt).2.1, ((x.2.2.2.getD j tMake.dflt).2.2.1, vs)))]).length) * 48 ≤ 140737488355328) <|
   .need (inR .i64 (((j : Nat) : Int) + 1)) <|
   .stop (lp (bodyOf Tryd.f49) 1) (.c (.ptr 0 0 0 0) :: J2 (.junk :: .c (.ptr 2 0 0 0) :: .c (.ptr 3 0 0 0) :: J4 (.c (.ptr 6 0 0 0) :: J16 (J8 (J4 (.c (.ro tMake x.2.2.2) :: .c (.int .i64 (x.2.2.2.length : Int)) :: .c (.int .i64 (((j : Nat) : Int) + 1)) :: J8 (bCl1 x j k))))))) [.cells 97 [.osl 1 1 at_.length, .bool f], .ovec 3 tI at_, .cells 27 [.int .i64 0, .int .i64 0, .nilsl, .nilsl], .cells 27 [.int .i64 x.1, .int .i64 x.2.1, .osl 4 2 ss.length, .osl 9 4 (ms ++ [((cutOne at_ (x.2.2.2.getD j tMake.dflt).1).1, ((x.2.2.2.getD j tMake.dflt).2.1, ((x.2.2.2.getD j tMake.dflt).2.2.1, vs)))]).length], .ovec 116 tVal ss, .dead, (bCl2 at_ x j vs), .dead, .vec 118 tMake ([((cutOne at_ (x.2.2.2.getD j tMake.dflt).1).1, ((x.2.2.2.getD j tMake.dflt).2.1, ((x.2.2.2.getD j tMake.dflt).2.2.1, vs)))]), .ovec 118 tMake (ms ++ [((cutOne at_ (x.2.2.2.getD j tMake.dflt).1).1, ((x.2.2.2.getD j tMake.dflt).2.1, ((x.2.2.2.getD j tMake.dflt).2.2.1, vs)))])])
theorem cexit_l2_R_ok (at_ : List Int) (fine : Bool) (x : EExit) (k : Nat) (j : Nat) (f : Bool) (ss : List EVal) (ms : List EMake) (vs : List Int) : aRound Tryd.prog oc21 Tryd.f49 cexit_lv 3000 (lp (bodyOf Tryd.f49) 2) (.c (.ptr 0 0 0 0) :: J2 (.junk :: .c (.ptr 2 0 0 0) :: .c (.ptr 3 0 0 0) :: J4 (.c (.ptr 6 0 0 0) :: J16 (J8 (J4 (.c (.ro tMake x.2.2.2) :: .c (.int .i64 (x.2.2.2.length : Int)) :: .c (.int .i64 ((j : Nat) : Int)) :: J8 (bCl1 x j k))))))) [.cells 97 [.osl 1 1 at_.length, .bool f], .ovec 3 tI at_, .cells 27 [.int .i64 0, .int .i64 0, .nilsl, .nilsl], (bCl6 x ss ms), .ovec 116 tVal ss, .ovec 118 tMake ms, (bCl2 at_ x j vs), .ovec 3 tI vs] = cexit_l2_R at_ fine x k j f ss ms vs := by kernel_rfl
theorem cexit_l2 (at_ : List Int) (fine : Bool) (x : EExit) (k : Nat) (j : Nat) (f : Bool) (ss : List EVal) (ms : List EMake) (vs : List Int) (hs : exitSm x) (hj : j < x.2.2.2.length ∧ ms.length ≤ j) (hb : vs.length ≤ k) (hn : ∀ (f' : Bool) (ms' : List EMake), ms'.length ≤ j + 1 → RunN 2 Tryd.prog 49 (finQ Tryd.prog 2 (.agg (Ty.enc tExit ((x.1, x.2.1, ss, ms' ++ (x.2.2.2.drop (j + 1)).map (cutMake at_))))) [.cells 97 [.osl 1 1 at_.length, .bool (f' && (x.2.2.2.drop (j + 1)).all (cutMakeOk at_))], .ovec 3 tI at_]) (lp (bodyOf Tryd.f49) 1) (.c (.ptr 0 0 0 0) :: J2 (.junk :: .c (.ptr 2 0 0 0) :: .c (.ptr 3 0 0 0) :: J32 (.junk :: .c (.ro tMake x.2.2.2) :: .c (.int .i64 (x.2.2.2.length : Int)) :: .c (.int .i64 (((j + 1) : Nat) : Int)) :: J32 (J4 ([]))))) [.cells 97 [.osl 1 1 at_.length, .bool f'], .ovec 3 tI at_, .cells 27 [.int .i64 0, .int .i64 0, .nilsl, .nilsl], .cells 27 [.int .i64 x.1, .int .i64 x.2.1, .osl 4 2 ss.length, .osl 5 4 ms'.length], .ovec 116 tVal ss, .ovec 118 tMake ms']) : RunN 2 Tryd.prog 49 (finQ Tryd.prog 2 (.agg (Ty.enc tExit ((x.1, x.2.1, ss, ms ++ ((cutOne at_ (x.2.2.2.getD j tMake.dflt).1).1, (x.2.2.2.getD j tMake.dflt).2.1, (x.2.2.2.getD j tMake.dflt).2.2.1, vs ++ ((x.2.2.2.getD j tMake.dflt).2.2.2.drop k).map (fun v => (cutOne at_ v).1)) :: (x.2.2.2.drop (j + 1)).map (cutMake at_))))) [.cells 97 [.osl 1 1 at_.length, .bool (f && (((x.2.2.2.getD j tMake.dflt).2.2.2.drop k).all (fun v => (cutOne at_ v).2) && (x.2.2.2.drop (j + 1)).all (cutMakeOk at_)))], .ovec 3 tI at_]) (lp (bodyOf Tryd.f49) 2) (.c (.ptr 0 0 0 0) :: J2 (.junk :: .c (.ptr 2 0 0 0) :: .c (.ptr 3 0 0 0) :: J4 (.c (.ptr 6 0 0 0) :: J16 (J8 (J4 (.c (.ro tMake x.2.2.2) :: .c (.int .i64 (x.2.2.2.length : Int)) :: .c (.int .i64 ((j : Nat) : Int)) :: J8 (bCl1 x j k))))))) [.cells 97 [.osl 1 1 at_.length, .bool f], .ovec 3 tI at_, .cells 27 [.int .i64 0, .int .i64 0, .nilsl, .nilsl], (bCl6 x ss ms), .ovec 116 tVal ss, .ovec 118 tMake ms, (bCl2 at_ x j vs), .ovec 3 tI vs] :=
  Run.roundA oc21 cexit_lv 3000 Tryd.func49 mixed (cexit_l2_R at_ fine x k j f ss ms vs) (cexit_l2_R_ok at_ fine x k j f ss ms vs) (by
    unfold cexit_l2_R
    refine g_iteD (fun h0 => ?_) (fun h0 => ?_)
    · refine g_need (by omega) ?_
      refine g_need (by omega) ?_
      refine g_callH (AFunH.frameB [0, 1] (one_fun at_ f ((x.2.2.2.getD j tMake.dflt).2.2.2.getD k tI.dflt)) rfl rfl rfl rfl rfl rfl rfl) ?_
      refine g_need (rfl) ?_
      refine g_need (⟨rfl, rfl⟩) ?_
      refine g_need (by first | omega | (constructor <;> omega) | (rw [i64_iff]; omega) | (rw [i64_iff]; constructor <;> omega) | rfl | (simp; done) | (have q := hs.2.2 _ (getD_mem (α := EMake) (Ty.dflt tMake) (by omega : j < x.2.2.2.length)); have q1 := hs.1; have q2 := hs.2.1; (try simp only [List.length_cons, List.length_nil]); first | omega | (rw [i64_iff]; omega))) ?_
      refine g_need (by first | omega | (constructor <;> omega) | (rw [i64_iff]; omega) | (rw [i64_iff]; constructor <;> omega) | rfl | (simp; done) | (have q := hs.2.2 _ (getD_mem (α := EMake) (Ty.dflt tMake) (by omega : j < x.2.2.2.length)); have q1 := hs.1; have q2 := hs.2.1; (try simp only [List.length_cons, List.length_nil]); first | omega | (rw [i64_iff]; omega))) ?_
      refine g_stop (RunN.keep [0, 1, 2, 3, 4, 5, 6, 9] (true :: F2 (false :: true :: true :: F4 (true :: F16 (F8 (F4 (true :: true :: true :: F8 (F4 (false :: true :: true :: true :: F16 (F4 ([])))))))))) (show ∀ k, k < 2 → ([0, 1, 2, 3, 4, 5, 6, 9] : List Nat)[k]? = some k by decide) (by decide) rfl rfl ?_)
      have := cexit_l2 at_ fine x (k + 1) j (f && (cutOne at_ ((x.2.2.2.getD j tMake.dflt).2.2.2.getD k tI.dflt)).2) ss ms (vs ++ [(cutOne at_ ((x.2.2.2.getD j tMake.dflt).2.2.2.getD k tI.dflt)).1]) hs hj (by simp; omega) hn; have e1 : vs ++ ((x.2.2.2.getD j tMake.dflt).2.2.2.drop k).map (fun v => (cutOne at_ v).1) = (vs ++ [(cutOne at_ ((x.2.2.2.getD j tMake.dflt).2.2.2.getD k tI.dflt)).1]) ++ ((x.2.2.2.getD j tMake.dflt).2.2.2.drop (k + 1)).map (fun v => (cutOne at_ v).1) := (by rw [dropCons (α := Int) (Ty.dflt tI) (by omega)]; simp); have e2 : (f && (((x.2.2.2.getD j tMake.dflt).2.2.2.drop k).all (fun v => (cutOne at_ v).2) && (x.2.2.2.drop (j + 1)).all (cutMakeOk at_))) = ((f && (cutOne at_ ((x.2.2.2.getD j tMake.dflt).2.2.2.getD k tI.dflt)).2) && (((x.2.2.2.getD j tMake.dflt).2.2.2.drop (k + 1)).all (fun v => (cutOne at_ v).2) && (x.2.2.2.drop (j + 1)).all (cutMakeOk at_))) := (by rw [dropCons (α := Int) (Ty.dflt tI) (by omega), List.all_cons]; simp only [Bool.and_assoc]); rw [e1, e2]; exact this
    · refine g_need (rfl) ?_
      refine g_need (rfl) ?_
      refine g_need (⟨rfl, rfl⟩) ?_
      refine g_need (by first | omega | (constructor <;> omega) | (rw [i64_iff]; omega) | (rw [i64_iff]; constructor <;> omega) | rfl | (simp; done) | (have q := hs.2.2 _ (getD_mem (α := EMake) (Ty.dflt tMake) (by omega : j < x.2.2.2.length)); have q1 := hs.1; have q2 := hs.2.1; (try simp only [List.length_cons, List.length_nil]); first | omega | (rw [i64_iff]; omega))) ?_
      refine g_need (by first | omega | (constructor <;> omega) | (rw [i64_iff]; omega) | (rw [i64_iff]; constructor <;> omega) | rfl | (simp; done) | (have q := hs.2.2 _ (getD_mem (α := EMake) (Ty.dflt tMake) (by omega : j < x.2.2.2.length)); have q1 := hs.1; have q2 := hs.2.1; (try simp only [List.length_cons, List.length_nil]); first | omega | (rw [i64_iff]; omega))) ?_
      refine g_stop (RunN.keep [0, 1, 2, 3, 4, 9] (true :: F2 (false :: true :: true :: F32 (false :: true :: true :: true :: F32 (F4 ([]))))) (show ∀ k, k < 2 → ([0, 1, 2, 3, 4, 9] : List Nat)[k]? = some k by decide) (by decide) rfl rfl ?_)
      have := hn f (ms ++ [((cutOne at_ (x.2.2.2.getD j tMake.dflt).1).1, (x.2.2.2.getD j tMake.dflt).2.1, (x.2.2.2.getD j tMake.dflt).2.2.1, vs)]) (by simp; omega); rw [show (x.2.2.2.getD j tMake.dflt).2.2.2.drop k = [] from List.drop_eq_nil_of_le (by omega), List.map_nil, List.append_nil, List.all_nil, Bool.true_and]; rw [List.append_assoc, List.singleton_append] at this; exact this
    )
  termination_by (x.2.2.2.getD j tMake.dflt).2.2.2.length - k
  decreasing_by all_goals omega
theorem cexit_l1 (at_ : List Int) (fine : Bool) (x : EExit) (j : Nat) (f : Bool) (ss : List EVal) (ms : List EMake) (hs : exitSm x) (hm : ms.length ≤ j) : RunN 2 Tryd.prog 49 (finQ Tryd.prog 2 (.agg (Ty.enc tExit ((x.1, x.2.1, ss, ms ++ (x.2.2.2.drop j).map (cutMake at_))))) [.cells 97 [.osl 1 1 at_.length, .bool (f && (x.2.2.2.drop j).all (cutMakeOk at_))], .ovec 3 tI at_]) (lp (bodyOf Tryd.f49) 1) (.c (.ptr 0 0 0 0) :: J2 (.junk :: .c (.ptr 2 0 0 0) :: .c (.ptr 3 0 0 0) :: J32 (.junk :: .c (.ro tMake x.2.2.2) :: .c (.int .i64 (x.2.2.2.length : Int)) :: .c (.int .i64 ((j : Nat) : Int)) :: J32 (J4 ([]))))) [.cells 97 [.osl 1 1 at_.length, .bool f], .ovec 3 tI at_, .cells 27 [.int .i64 0, .int .i64 0, .nilsl, .nilsl], (bCl6 x ss ms), .ovec 116 tVal ss, .ovec 118 tMake ms] :=
  Run.roundA oc21 cexit_lv 3000 Tryd.func49 mixed (cexit_l1_R at_ fine x j f ss ms) (cexit_l1_R_ok at_ fine x j f ss ms) (by
    unfold cexit_l1_R
    refine g_iteD (fun h0 => ?_) (fun h0 => ?_)
    · refine g_need (by omega) ?_
      refine g_need (by omega) ?_
      refine g_callH (AFunH.frameB [0, 1] (one_fun at_ f (x.2.2.2.getD j tMake.dflt).1) rfl rfl rfl rfl rfl rfl rfl) ?_
      refine g_stop (RunN.keep [0, 1, 2, 3, 4, 5, 7, 1007] (true :: F2 (false :: true :: true :: F4 (true :: F16 (F8 (F4 (true :: true :: true :: F8 (F4 (false :: true :: true :: true :: F16 (F4 ([])))))))))) (show ∀ k, k < 2 → ([0, 1, 2, 3, 4, 5, 7, 1007] : List Nat)[k]? = some k by decide) (by decide) rfl rfl ?_)
      refine RunN.less (env' := (.c (.ptr 0 0 0 0) :: J2 (.junk :: .c (.ptr 2 0 0 0) :: .c (.ptr 3 0 0 0) :: J4 (.c (.ptr 6 0 0 0) :: J16 (J8 (J4 (.c (.ro tMake x.2.2.2) :: .c (.int .i64 (x.2.2.2.length : Int)) :: .c (.int .i64 ((j : Nat) : Int)) :: J8 (J4 (.junk :: .c (.ro tI (x.2.2.2.getD j tMake.dflt).2.2.2) :: .c (.int .i64 ((x.2.2.2.getD j tMake.dflt).2.2.2.length : Int)) :: .c (.int .i64 ((0 : Nat) : Int)) :: J16 (J4 ([]))))))))))) (H' := [.cells 97 [.osl 1 1 at_.length, .bool (f && (cutOne at_ (x.2.2.2.getD j tMake.dflt).1).2)], .ovec 3 tI at_, .cells 27 [.int .i64 0, .int .i64 0, .nilsl, .nilsl], (bCl6 x ss ms), .ovec 116 tVal ss, .ovec 118 tMake ms, .cells 118 [.int .i64 (cutOne at_ (x.2.2.2.getD j tMake.dflt).1).1, .int .i64 (x.2.2.2.getD j tMake.dflt).2.1, .int .i64 (x.2.2.2.getD j tMake.dflt).2.2.1, .osl 7 1 0], .ovec 3 tI ([])]) (leAVs.same rfl) (⟨leB.refl _, leB.refl _, leB.refl _, leB.refl _, leB.refl _, leB.refl _, ⟨rfl, leC.refl _, leC.refl _, leC.refl _, rfl, trivial⟩, rfl, trivial⟩) ?_
      have ht := cexit_l2 at_ fine x 0 j (f && (cutOne at_ (x.2.2.2.getD j tMake.dflt).1).2) ss ms ([]) hs ⟨by omega, hm⟩ (by simp) (fun f' ms' hq => cexit_l1 at_ fine x (j + 1) f' ss ms' hs hq); have e1 : ms ++ (x.2.2.2.drop j).map (cutMake at_) = ms ++ ((cutOne at_ (x.2.2.2.getD j tMake.dflt).1).1, (x.2.2.2.getD j tMake.dflt).2.1, (x.2.2.2.getD j tMake.dflt).2.2.1, [] ++ ((x.2.2.2.getD j tMake.dflt).2.2.2.drop 0).map (fun v => (cutOne at_ v).1)) :: (x.2.2.2.drop (j + 1)).map (cutMake at_) := (by rw [dropCons (α := EMake) (Ty.dflt tMake) (by omega : j < x.2.2.2.length)]; rfl); have e2 : (f && (x.2.2.2.drop j).all (cutMakeOk at_)) = ((f && (cutOne at_ (x.2.2.2.getD j tMake.dflt).1).2) && (((x.2.2.2.getD j tMake.dflt).2.2.2.drop 0).all (fun v => (cutOne at_ v).2) && (x.2.2.2.drop (j + 1)).all (cutMakeOk at_))) := (by rw [dropCons (α := EMake) (Ty.dflt tMake) (by omega : j < x.2.2.2.length), List.all_cons]; simp only [cutMakeOk, Bool.and_assoc, List.drop_zero]); rw [e1, e2]; exact ht
    · refine g_fin ?_
      refine g_need (rfl) ?_
      refine g_need (rfl) ?_
      exact g_end [0, 1] (show ∀ k, k < 2 → ([0, 1] : List Nat)[k]? = some k by decide) (by decide) (⟨⟨rfl, (show (x.1 : Int) = (x.1, x.2.1, ss, ms ++ (x.2.2.2.drop j).map (cutMake at_)).1 from by first | rfl | (rw [List.drop_eq_nil_of_le (by omega)]; simp; done))⟩, ⟨rfl, (show (x.2.1 : Int) = (x.1, x.2.1, ss, ms ++ (x.2.2.2.drop j).map (cutMake at_)).2.1 from by first | rfl | (rw [List.drop_eq_nil_of_le (by omega)]; simp; done))⟩, ⟨rfl, (show (ss) = (x.1, x.2.1, ss, ms ++ (x.2.2.2.drop j).map (cutMake at_)).2.2.1 from by first | rfl | (rw [List.drop_eq_nil_of_le (by omega)]; simp; done))⟩, ⟨rfl, (show (ms) = (x.1, x.2.1, ss, ms ++ (x.2.2.2.drop j).map (cutMake at_)).2.2.2 from by first | rfl | (rw [List.drop_eq_nil_of_le (by omega)]; simp; done))⟩, trivial⟩) ⟨⟨rfl, leC.refl _, (show (f : Bool) = (f && (x.2.2.2.drop j).all (cutMakeOk at_)) from by first | rfl | (rw [List.drop_eq_nil_of_le (by omega)]; simp; done)), trivial⟩, leB.refl _, trivial⟩
    )
  termination_by x.2.2.2.length - j
  decreasing_by all_goals omega
theorem cexit_l0 (at_ : List Int) (fine : Bool) (x : EExit) (i : Nat) (f : Bool) (ss : List EVal) (hs : exitSm x) (hm : ss.length ≤ i) : RunN 2 Tryd.prog 49 (finQ Tryd.prog 2 (.agg (Ty.enc tExit ((x.1, x.2.1, ss ++ (x.2.2.1.drop i).map (cutSet at_), x.2.2.2.map (cutMake at_))))) [.cells 97 [.osl 1 1 at_.length, .bool (f && ((x.2.2.1.drop i).all (cutSetOk at_) && x.2.2.2.all (cutMakeOk at_)))], .ovec 3 tI at_]) (lp (bodyOf Tryd.f49) 0) (.c (.ptr 0 0 0 0) :: J2 (.c (.ptr 2 0 0 0) :: .c (.ptr 3 0 0 0) :: .c (.ptr 4 0 0 0) :: J8 (J4 (.junk :: .c (.ro tVal x.2.2.1) :: .c (.int .i64 (x.2.2.1.length : Int)) :: .c (.int .i64 ((i : Nat) : Int)) :: J32 (J16 (J8 ([]))))))) [.cells 97 [.osl 1 1 at_.length, .bool f], .ovec 3 tI at_, .cells 27 (Ty.enc tExit x), .cells 27 [.int .i64 0, .int .i64 0, .nilsl, .nilsl], .cells 27 [.int .i64 x.1, .int .i64 x.2.1, .osl 5 2 ss.length, .nilsl], .ovec 116 tVal ss] :=
  Run.roundA oc21 cexit_lv 3000 Tryd.func49 mixed (cexit_l0_R at_ fine x i f ss) (cexit_l0_R_ok at_ fine x i f ss) (by
    unfold cexit_l0_R
    refine g_iteD (fun h0 => ?_) (fun h0 => ?_)
    · refine g_need (by omega) ?_
      refine g_need (by omega) ?_
      refine g_callH (AFunH.frameB [0, 1] (one_fun at_ f (x.2.2.1.getD i tVal.dflt).2) rfl rfl rfl rfl rfl rfl rfl) ?_
      refine g_need (rfl) ?_
      refine g_need (⟨rfl, rfl⟩) ?_
      refine g_need (by first | omega | (constructor <;> omega) | (rw [i64_iff]; omega) | (rw [i64_iff]; constructor <;> omega) | rfl | (simp; done) | (have q1 := hs.1; have q2 := hs.2.1; (try simp only [List.length_cons, List.length_nil]); first | omega | (rw [i64_iff]; omega))) ?_
      refine g_need (by first | omega | (constructor <;> omega) | (rw [i64_iff]; omega) | (rw [i64_iff]; constructor <;> omega) | rfl | (simp; done) | (have q1 := hs.1; have q2 := hs.2.1; (try simp only [List.length_cons, List.length_nil]); first | omega | (rw [i64_iff]; omega))) ?_
      refine g_stop (RunN.keep [0, 1, 2, 3, 4, 8] (true :: F2 (true :: true :: true :: F8 (F4 (false :: true :: true :: true :: F32 (F16 (F8 ([]))))))) (show ∀ k, k < 2 → ([0, 1, 2, 3, 4, 8] : List Nat)[k]? = some k by decide) (by decide) rfl rfl ?_)
      have ht := cexit_l0 at_ fine x (i + 1) (f && (cutOne at_ (x.2.2.1.getD i tVal.dflt).2).2) (ss ++ [((x.2.2.1.getD i tVal.dflt).1, (cutOne at_ (x.2.2.1.getD i tVal.dflt).2).1)]) hs (by simp; omega); have e1 : ss ++ (x.2.2.1.drop i).map (cutSet at_) = (ss ++ [cutSet at_ (x.2.2.1.getD i tVal.dflt)]) ++ (x.2.2.1.drop (i + 1)).map (cutSet at_) := (by rw [dropCons (α := EVal) (Ty.dflt tVal) (by omega)]; simp); have e2 : (f && ((x.2.2.1.drop i).all (cutSetOk at_) && x.2.2.2.all (cutMakeOk at_))) = ((f && (cutOne at_ (x.2.2.1.getD i tVal.dflt).2).2) && ((x.2.2.1.drop (i + 1)).all (cutSetOk at_) && x.2.2.2.all (cutMakeOk at_))) := (by rw [dropCons (α := EVal) (Ty.dflt tVal) (by omega), List.all_cons]; simp only [cutSetOk, Bool.and_assoc]); rw [e1, e2]; exact ht
    · refine g_stop (RunN.keep [0, 1, 3, 4, 5, 1005] (true :: F2 (false :: true :: true :: F32 (false :: true :: true :: true :: F32 (F4 ([]))))) (show ∀ k, k < 2 → ([0, 1, 3, 4, 5, 1005] : List Nat)[k]? = some k by decide) (by decide) rfl rfl ?_)
      refine RunN.less (env' := (.c (.ptr 0 0 0 0) :: J2 (.junk :: .c (.ptr 2 0 0 0) :: .c (.ptr 3 0 0 0) :: J32 (.junk :: .c (.ro tMake x.2.2.2) :: .c (.int .i64 (x.2.2.2.length : Int)) :: .c (.int .i64 ((0 : Nat) : Int)) :: J32 (J4 ([])))))) (H' := [.cells 97 [.osl 1 1 at_.length, .bool f], .ovec 3 tI at_, .cells 27 [.int .i64 0, .int .i64 0, .nilsl, .nilsl], .cells 27 [.int .i64 x.1, .int .i64 x.2.1, .osl 4 2 ss.length, .osl 5 4 0], .ovec 116 tVal ss, .ovec 118 tMake ([])]) (leAVs.same rfl) (⟨leB.refl _, leB.refl _, leB.refl _, ⟨rfl, leC.refl _, leC.refl _, leC.refl _, rfl, trivial⟩, leB.refl _, rfl, trivial⟩) ?_
      have ht := cexit_l1 at_ fine x 0 f ss ([]) hs (by simp); rw [List.drop_zero, List.nil_append] at ht; rw [show x.2.2.1.drop i = [] from List.drop_eq_nil_of_le (by omega), List.map_nil, List.append_nil, List.all_nil, Bool.true_and]; exact ht
    )
  termination_by x.2.2.1.length - i
  decreasing_by all_goals omega
theorem cexit_fun (at_ : List Int) (fine : Bool) (x : EExit) (hs : exitSm x) : AFunH Tryd.prog 49 [.c (.ptr 0 0 0 0), .agg (tExit.enc x)] [.cells 97 [.osl 1 1 at_.length, .bool fine], .ovec 3 tI at_] (.agg (Ty.enc tExit (cutExit at_ x))) [.cells 97 [.osl 1 1 at_.length, .bool (fine && cutExitOk at_ x)], .ovec 3 tI at_] (List.range 2) :=
  AFunH.ofL oc21 cexit_lv 3000 Tryd.func49 mixed rfl (by decide) (Nat.le_of_ble_eq_true rfl) rfl rfl (Nat.le_of_ble_eq_true rfl) _ (cexit_T_ok at_ fine x) fun hF => by
    unfold cexit_T
    refine g_stop (RunN.keep [0, 1, 2, 3, 4, 1005] (true :: F2 (true :: true :: true :: F8 (F4 (false :: true :: true :: true :: F32 (F16 (F8 ([]))))))) (show ∀ k, k < 2 → ([0, 1, 2, 3, 4, 1005] : List Nat)[k]? = some k by decide) (by decide) rfl rfl ?_)
    refine RunN.less (env' := (.c (.ptr 0 0 0 0) :: J2 (.c (.ptr 2 0 0 0) :: .c (.ptr 3 0 0 0) :: .c (.ptr 4 0 0 0) :: J8 (J4 (.junk :: .c (.ro tVal x.2.2.1) :: .c (.int .i64 (x.2.2.1.length : Int)) :: .c (.int .i64 ((0 : Nat) : Int)) :: J32 (J16 (J8 ([])))))))) (H' := [.cells 97 [.osl 1 1 at_.length, .bool fine], .ovec 3 tI at_, .cells 27 (Ty.enc tExit x), .cells 27 [.int .i64 0, .int .i64 0, .nilsl, .nilsl], .cells 27 [.int .i64 x.1, .int .i64 x.2.1, .osl 5 2 0, .nilsl], .ovec 116 tVal ([])]) (leAVs.same rfl) (⟨leB.refl _, leB.refl _, leB.refl _, leB.refl _, ⟨rfl, leC.refl _, leC.refl _, rfl, leC.refl _, trivial⟩, rfl, trivial⟩) ?_
    exact cexit_l0 at_ fine x 0 fine ([]) hs (by simp)

def stepV (at_ : List Int) (n k v : Int) : Int := if k < n then (cutOne at_ v).1 else v
def stepOk (at_ : List Int) (n k v : Int) : Bool := if k < n then (cutOne at_ v).2 else true
def cutAsks (op : Int) : Int := if (ofF op).2 = true then (ofF op).1.1 else 0
def cutIns (at_ : List Int) (x : EIns) : EIns := (x.1, stepV at_ (cutAsks x.1) 0 x.2.1, stepV at_ (cutAsks x.1) 1 x.2.2.1, stepV at_ (cutAsks x.1) 2 x.2.2.2.1, x.2.2.2.2)
def cutInsOk (at_ : List Int) (x : EIns) : Bool := stepOk at_ (cutAsks x.1) 0 x.2.1 && (stepOk at_ (cutAsks x.1) 1 x.2.2.1 && stepOk at_ (cutAsks x.1) 2 x.2.2.2.1)
noncomputable def oc22 : Orc where
  pure := fun f args => match f, args with
    | 43, [a0] => match dA tI a0 with
      | some x0 => some (.tup [.agg (Ty.enc tForm ((ofF x0).1)), .c (.bool ((ofF x0).2))])
      | _ => none
    | _, _ => none
  heap := fun f args H => match f, args with
    | 88, [.one (.c (.ptr b0 0 0 0)), a1] => match cellsAs 97 H[b0]? with
      | some [.osl b1 1 _, c0_1] => (match dA tI a1, dC .bool c0_1, ovecAs 3 tI H[b1]? with
        | some x1, some y0_1, some y1 => hres [b0, b1] H (.c (.int .i64 ((cutOne y1 x1).1))) [.cells 97 [.osl 1 1 y1.length, .bool (y0_1 && (cutOne y1 x1).2)], .ovec 3 tI y1]
        | _, _, _ => none)
      | _ => none
    | _, _ => none
def cins_lv : LV := ⟨(true :: F2 (true :: true :: F16 (F2 (true :: true :: true :: F8 (F4 ([])))))), []⟩
abbrev bCl5 : AB := .cells 46 [.int .i64 0, .int .i64 0, .int .i64 0, .int .i64 0, .int .i64 0, .int .i64 0, .int .i64 0, .int .i64 0]
noncomputable def cins_T (at_ : List Int) (fine : Bool) (x : EIns) : Tree :=
  .call 43 [.c (.int .i64 x.1)] false (.tup [.agg [.int .i64 (ofF x.1).1.1, .int .i64 (ofF x.1).1.2.1, .int .i64 (ofF x.1).1.2.2.1, .bool (ofF x.1).1.2.2.2.1, .bool (ofF x.1).1.2.2.2.2.1, .int .i64 (ofF x.1).1.2.2.2.2.2], .c (.bool (ofF x.1).2)]) <|
  .ite ((ofF x.1).2)
  (.need ((0 : Int) ≤ (ofF x.1).1.1 ∧ ((ofF x.1).1.1 : Int) ≤ ((3 : Nat) : Int)) <|
   .stop (lp (bodyOf Tryd.f48) 0) (.c (.ptr 0 0 0 0) :: J2 (.c (.ptr 2 0 0 0) :: .c (.ptr 3 0 0 0) :: J16 (J2 (.c (.pre 5 1 (Int.toNat (ofF x.1).1.1)) :: .c (.int .i64 (((Int.toNat (ofF x.1).1.1) : Nat) : Int)) :: .c (.int .i64 0) :: J8 (J4 ([])))))) [.cells 97 [.osl 1 1 at_.length, .bool fine], .ovec 3 tI at_, .cells 46 (Ty.enc tIns x), bCl5, .cells 88 [.int .i64 (ofF x.1).1.1, .int .i64 (ofF x.1).1.2.1, .int .i64 (ofF x.1).1.2.2.1, .bool (ofF x.1).1.2.2.2.1, .bool (ofF x.1).1.2.2.2.2.1, .int .i64 (ofF x.1).1.2.2.2.2.2], .cells 156 [.ptr 2 0 0 1, .ptr 2 0 0 2, .ptr 2 0 0 3]])
  (.ret (.agg (Ty.enc tIns x)) [.cells 97 [.osl 1 1 at_.length, .bool fine], .ovec 3 tI at_, .cells 46 (Ty.enc tIns x), .cells 46 (Ty.enc tIns x), .cells 88 [.int .i64 (ofF x.1).1.1, .int .i64 (ofF x.1).1.2.1, .int .i64 (ofF x.1).1.2.2.1, .bool (ofF x.1).1.2.2.2.1, .bool (ofF x.1).1.2.2.2.2.1, .int .i64 (ofF x.1).1.2.2.2.2.2], .cells 156 [.ptr 2 0 0 1, .ptr 2 0 0 2, .ptr 2 0 0 3]])
theorem cins_T_ok (at_ : List Int) (fine : Bool) (x : EIns) : aRun Tryd.prog oc22 Tryd.f48 cins_lv 3000 [.code (bodyOf Tryd.f48)] ([.c (.ptr 0 0 0 0), .agg (tIns.enc x)] ++ List.replicate (Func.ntmps Tryd.f48 - 2) .junk) [.cells 97 [.osl 1 1 at_.length, .bool fine], .ovec 3 tI at_] = cins_T at_ fine x := by kernel_rfl
abbrev bCl3 (x : EIns) (a0 : Int) (a1 : Int) (a2 : Int) : AB := .cells 46 [.int .i64 x.1, .int .i64 a0, .int .i64 a1, .int .i64 a2, .int .i64 x.2.2.2.2.1, .int .i64 x.2.2.2.2.2.1, .int .i64 x.2.2.2.2.2.2.1, .int .i64 x.2.2.2.2.2.2.2]
abbrev bCl4 (x : EIns) (a0 : Int) (a1 : Int) (a2 : Int) : List CV := [.int .i64 x.1, .int .i64 a0, .int .i64 a1, .int .i64 a2, .int .i64 x.2.2.2.2.1, .int .i64 x.2.2.2.2.2.1, .int .i64 x.2.2.2.2.2.2.1, .int .i64 x.2.2.2.2.2.2.2]
noncomputable def cins_i3_R (at_ : List Int) (fine : Bool) (x : EIns) (f : Bool) (a0 : Int) (a1 : Int) (a2 : Int) : Tree :=
  .ite (decide ((3 : Int) < (((Int.toNat (ofF x.1).1.1) : Nat) : Int)))
  (.need ((0 : Int) ≤ 3 ∧ (3 : Int) < (((Int.toNat (ofF x.1).1.1) : Nat) : Int)) <|
   .fail 10)
  (.ret (.agg (bCl4 x a0 a1 a2)) [.cells 97 [.osl 1 1 at_.length, .bool f], .ovec 3 tI at_, (bCl3 x a0 a1 a2), (bCl3 x a0 a1 a2), .cells 156 [.ptr 2 0 0 1, .ptr 2 0 0 2, .ptr 2 0 0 3]])
theorem cins_i3_R_ok (at_ : List Int) (fine : Bool) (x : EIns) (f : Bool) (a0 : Int) (a1 : Int) (a2 : Int) : aRound Tryd.prog oc22 Tryd.f48 cins_lv 3000 (lp (bodyOf Tryd.f48) 0) (.c (.ptr 0 0 0 0) :: J2 (.c (.ptr 2 0 0 0) :: .c (.ptr 3 0 0 0) :: J16 (J2 (.c (.pre 4 1 (Int.toNat (ofF x.1).1.1)) :: .c (.int .i64 (((Int.toNat (ofF x.1).1.1) : Nat) : Int)) :: .c (.int .i64 3) :: J8 (J4 ([])))))) [.cells 97 [.osl 1 1 at_.length, .bool f], .ovec 3 tI at_, (bCl3 x a0 a1 a2), bCl5, .cells 156 [.ptr 2 0 0 1, .ptr 2 0 0 2, .ptr 2 0 0 3]] = cins_i3_R at_ fine x f a0 a1 a2 := by kernel_rfl
noncomputable def cins_i2_R (at_ : List Int) (fine : Bool) (x : EIns) (f : Bool) (a0 : Int) (a1 : Int) (a2 : Int) : Tree :=
  .ite (decide ((2 : Int) < (((Int.toNat (ofF x.1).1.1) : Nat) : Int)))
  (.need ((0 : Int) ≤ 2 ∧ (2 : Int) < (((Int.toNat (ofF x.1).1.1) : Nat) : Int)) <|
   .callH 88 [.c (.ptr 0 0 0 0), .c (.int .i64 a2)] [.cells 97 [.osl 1 1 at_.length, .bool f], .ovec 3 tI at_, (bCl3 x a0 a1 a2), bCl5, .cells 156 [.ptr 2 0 0 1, .ptr 2 0 0 2, .ptr 2 0 0 3]] (.c (.int .i64 (cutOne at_ a2).1)) [.cells 97 [.osl 1 1 at_.length, .bool (f && (cutOne at_ a2).2)], .ovec 3 tI at_, (bCl3 x a0 a1 a2), bCl5, .cells 156 [.ptr 2 0 0 1, .ptr 2 0 0 2, .ptr 2 0 0 3]] [0, 1] <|
   .need (inR .i64 (2 + 1)) <|
   .stop (lp (bodyOf Tryd.f48) 0) (.c (.ptr 0 0 0 0) :: J2 (.c (.ptr 2 0 0 0) :: .c (.ptr 3 0 0 0) :: J16 (J2 (.c (.pre 4 1 (Int.toNat (ofF x.1).1.1)) :: .c (.int .i64 (((Int.toNat (ofF x.1).1.1) : Nat) : Int)) :: .c (.int .i64 (2 + 1)) :: J8 (J4 ([])))))) [.cells 97 [.osl 1 1 at_.length, .bool (f && (cutOne at_ a2).2)], .ovec 3 tI at_, .cells 46 [.int .i64 x.1, .int .i64 a0, .int .i64 a1, .int .i64 (cutOne at_ a2).1, .int .i64 x.2.2.2.2.1, .int .i64 x.2.2.2.2.2.1, .int .i64 x.2.2.2.2.2.2.1, .int .i64 x.2.2.2.2.2.2.2], bCl5, .cells 156 [.ptr 2 0 0 1, .ptr 2 0 0 2, .ptr 2 0 0 3]])
  (.ret (.agg (bCl4 x a0 a1 a2)) [.cells 97 [.osl 1 1 at_.length, .bool f], .ovec 3 tI at_, (bCl3 x a0 a1 a2), (bCl3 x a0 a1 a2), .cells 156 [.ptr 2 0 0 1, .ptr 2 0 0 2, .ptr 2 0 0 3]])
theorem cins_i2_R_ok (at_ : List Int) (fine : Bool) (x : EIns) (f : Bool) (a0 : Int) (a1 : Int) (a2 : Int) : aRound Tryd.prog oc22 Tryd.f48 cins_lv 3000 (lp (bodyOf Tryd.f48) 0) (.c (.ptr 0 0 0 0) :: J2 (.c (.ptr 2 0 0 0) :: .c (.ptr 3 0 0 0) :: J16 (J2 (.c (.pre 4 1 (Int.toNat (ofF x.1).1.1)) :: .c (.int .i64 (((Int.toNat (ofF x.1).1.1) : Nat) : Int)) :: .c (.int .i64 2) :: J8 (J4 ([])))))) [.cells 97 [.osl 1 1 at_.length, .bool f], .ovec 3 tI at_, (bCl3 x a0 a1 a2), bCl5, .cells 156 [.ptr 2 0 0 1, .ptr 2 0 0 2, .ptr 2 0 0 3]] = cins_i2_R at_ fine x f a0 a1 a2 := by kernel_rfl
noncomputable def cins_i1_R (at_ : List Int) (fine : Bool) (x : EIns) (f : Bool) (a0 : Int) (a1 : Int) (a2 : Int) : Tree :=
  .ite (decide ((1 : Int) < (((Int.toNat (ofF x.1).1.1) : Nat) : Int)))
  (.need ((0 : Int) ≤ 1 ∧ (1 : Int) < (((Int.toNat (ofF x.1).1.1) : Nat) : Int)) <|
   .callH 88 [.c (.ptr 0 0 0 0), .c (.int .i64 a1)] [.cells 97 [.osl 1 1 at_.length, .bool f], .ovec 3 tI at_, (bCl3 x a0 a1 a2), bCl5, .cells 156 [.ptr 2 0 0 1, .ptr 2 0 0 2, .ptr 2 0 0 3]] (.c (.int .i64 (cutOne at_ a1).1)) [.cells 97 [.osl 1 1 at_.length, .bool (f && (cutOne at_ a1).2)], .ovec 3 tI at_, (bCl3 x a0 a1 a2), bCl5, .cells 156 [.ptr 2 0 0 1, .ptr 2 0 0 2, .ptr 2 0 0 3]] [0, 1] <|
   .need (inR .i64 (1 + 1)) <|
   .stop (lp (bodyOf Tryd.f48) 0) (.c (.ptr 0 0 0 0) :: J2 (.c (.ptr 2 0 0 0) :: .c (.ptr 3 0 0 0) :: J16 (J2 (.c (.pre 4 1 (Int.toNat (ofF x.1).1.1)) :: .c (.int .i64 (((Int.toNat (ofF x.1).1.1) : Nat) : Int)) :: .c (.int .i64 (1 + 1)) :: J8 (J4 ([])))))) [.cells 97 [.osl 1 1 at_.length, .bool (f && (cutOne at_ a1).2)], .ovec 3 tI at_, .cells 46 [.int .i64 x.1, .int .i64 a0, .int .i64 (cutOne at_ a1).1, .int .i64 a2, .int .i64 x.2.2.2.2.1, .int .i64 x.2.2.2.2.2.1, .int .i64 x.2.2.2.2.2.2.1, .int .i64 x.2.2.2.2.2.2.2], bCl5, .cells 156 [.ptr 2 0 0 1, .ptr 2 0 0 2, .ptr 2 0 0 3]])
  (.ret (.agg (bCl4 x a0 a1 a2)) [.cells 97 [.osl 1 1 at_.length, .bool f], .ovec 3 tI at_, (bCl3 x a0 a1 a2), (bCl3 x a0 a1 a2), .cells 156 [.ptr 2 0 0 1, .ptr 2 0 0 2, .ptr 2 0 0 3]])
theorem cins_i1_R_ok (at_ : List Int) (fine : Bool) (x : EIns) (f : Bool) (a0 : Int) (a1 : Int) (a2 : Int) : aRound Tryd.prog oc22 Tryd.f48 cins_lv 3000 (lp (bodyOf Tryd.f48) 0) (.c (.ptr 0 0 0 0) :: J2 (.c (.ptr 2 0 0 0) :: .c (.ptr 3 0 0 0) :: J16 (J2 (.c (.pre 4 1 (Int.toNat (ofF x.1).1.1)) :: .c (.int .i64 (((Int.toNat (ofF x.1).1.1) : Nat) : Int)) :: .c (.int .i64 1) :: J8 (J4 ([])))))) [.cells 97 [.osl 1 1 at_.length, .bool f], .ovec 3 tI at_, (bCl3 x a0 a1 a2), bCl5, .cells 156 [.ptr 2 0 0 1, .ptr 2 0 0 2, .ptr 2 0 0 3]] = cins_i1_R at_ fine x f a0 a1 a2 := by kernel_rfl
noncomputable def cins_i0_R (at_ : List Int) (fine : Bool) (x : EIns) (f : Bool) (a0 : Int) (a1 : Int) (a2 : Int) : Tree :=
  .ite (decide ((0 : Int) < (((Int.toNat (ofF x.1).1.1) : Nat) : Int)))
  (.need ((0 : Int) ≤ 0 ∧ (0 : Int) < (((Int.toNat (ofF x.1).1.1) : Nat) : Int)) <|
   .callH 88 [.c (.ptr 0 0 0 0), .c (.int .i64 a0)] [.cells 97 [.osl 1 1 at_.length, .bool f], .ovec 3 tI at_, (bCl3 x a0 a1 a2), bCl5, .cells 156 [.ptr 2 0 0 1, .ptr 2 0 0 2, .ptr 2 0 0 3]] (.c (.int .i64 (cutOne at_ a0).1)) [.cells 97 [.osl 1 1 at_.length, .bool (f && (cutOne at_ a0).2)], .ovec 3 tI at_, (bCl3 x a0 a1 a2), bCl5, .cells 156 [.ptr 2 0 0 1, .ptr 2 0 0 2, .ptr 2 0 0 3]] [0, 1] <|
   .need (inR .i64 (0 + 1)) <|
   .stop (lp (bodyOf Tryd.f48) 0) (.c (.ptr 0 0 0 0) :: J2 (.c (.ptr 2 0 0 0) :: .c (.ptr 3 0 0 0) :: J16 (J2 (.c (.pre 4 1 (Int.toNat (ofF x.1).1.1)) :: .c (.int .i64 (((Int.toNat (ofF x.1).1.1) : Nat) : Int)) :: .c (.int .i64 (0 + 1)) :: J8 (J4 ([])))))) [.cells 97 [.osl 1 1 at_.length, .bool (f && (cutOne at_ a0).2)], .ovec 3 tI at_, .cells 46 [.int .i64 x.1, .int .i64 (cutOne at_ a0).1, .int .i64 a1, .int .i64 a2, .int .i64 x.2.2.2.2.1, .int .i64 x.2.2.2.2.2.1, .int .i64 x.2.2.2.2.2.2.1, .int .i64 x.2.2.2.2.2.2.2], bCl5, .cells 156 [.ptr 2 0 0 1, .ptr 2 0 0 2, .ptr 2 0 0 3]])
  (.ret (.agg (bCl4 x a0 a1 a2)) [.cells 97 [.osl 1 1 at_.length, .bool f], .ovec 3 tI at_, (bCl3 x a0 a1 a2), (bCl3 x a0 a1 a2), .cells 156 [.ptr 2 0 0 1, .ptr 2 0 0 2, .ptr 2 0 0 3]])
theorem cins_i0_R_ok (at_ : List Int) (fine : Bool) (x : EIns) (f : Bool) (a0 : Int) (a1 : Int) (a2 : Int) : aRound Tryd.prog oc22 Tryd.f48 cins_lv 3000 (lp (bodyOf Tryd.f48) 0) (.c (.ptr 0 0 0 0) :: J2 (.c (.ptr 2 0 0 0) :: .c (.ptr 3 0 0 0) :: J16 (J2 (.c (.pre 4 1 (Int.toNat (ofF x.1).1.1)) :: .c (.int .i64 (((Int.toNat (ofF x.1).1.1) : Nat) : Int)) :: .c (.int .i64 0) :: J8 (J4 ([])))))) [.cells 97 [.osl 1 1 at_.length, .bool f], .ovec 3 tI at_, (bCl3 x a0 a1 a2), bCl5, .cells 156 [.ptr 2 0 0 1, .ptr 2 0 0 2, .ptr 2 0 0 3]] = cins_i0_R at_ fine x f a0 a1 a2 := by kernel_rfl
theorem cins_i3 (at_ : List Int) (fine : Bool) (x : EIns) (f : Bool) (a0 : Int) (a1 : Int) (a2 : Int) (ha : 0 ≤ (ofF x.1).1.1 ∧ (ofF x.1).1.1 ≤ 3) : RunN 2 Tryd.prog 48 (finQ Tryd.prog 2 (.agg (Ty.enc tIns ((x.1, a0, a1, a2, x.2.2.2.2)))) [.cells 97 [.osl 1 1 at_.length, .bool f], .ovec 3 tI at_]) (lp (bodyOf Tryd.f48) 0) (.c (.ptr 0 0 0 0) :: J2 (.c (.ptr 2 0 0 0) :: .c (.ptr 3 0 0 0) :: J16 (J2 (.c (.pre 4 1 (Int.toNat (ofF x.1).1.1)) :: .c (.int .i64 (((Int.toNat (ofF x.1).1.1) : Nat) : Int)) :: .c (.int .i64 3) :: J8 (J4 ([])))))) [.cells 97 [.osl 1 1 at_.length, .bool f], .ovec 3 tI at_, (bCl3 x a0 a1 a2), bCl5, .cells 156 [.ptr 2 0 0 1, .ptr 2 0 0 2, .ptr 2 0 0 3]] :=
  Run.roundA oc22 cins_lv 3000 Tryd.func48 mixed (cins_i3_R at_ fine x f a0 a1 a2) (cins_i3_R_ok at_ fine x f a0 a1 a2) (by
    unfold cins_i3_R
    refine g_iteD (fun h0 => ?_) (fun h0 => ?_)
    · refine g_need (by omega) ?_
      exact (show False from by first | omega | (constructor <;> omega) | (rw [i64_iff]; omega) | (rw [i64_iff]; constructor <;> omega) | rfl | (simp; done) | (simp; omega))
    · refine g_fin ?_
      exact g_end [0, 1] (show ∀ k, k < 2 → ([0, 1] : List Nat)[k]? = some k by decide) (by decide) (⟨⟨rfl, (show (x.1 : Int) = (x.1, a0, a1, a2, x.2.2.2.2).1 from by rfl)⟩, ⟨rfl, (show (a0 : Int) = (x.1, a0, a1, a2, x.2.2.2.2).2.1 from by rfl)⟩, ⟨rfl, (show (a1 : Int) = (x.1, a0, a1, a2, x.2.2.2.2).2.2.1 from by rfl)⟩, ⟨rfl, (show (a2 : Int) = (x.1, a0, a1, a2, x.2.2.2.2).2.2.2.1 from by rfl)⟩, ⟨rfl, (show (x.2.2.2.2.1 : Int) = (x.1, a0, a1, a2, x.2.2.2.2).2.2.2.2.1 from by rfl)⟩, ⟨rfl, (show (x.2.2.2.2.2.1 : Int) = (x.1, a0, a1, a2, x.2.2.2.2).2.2.2.2.2.1 from by rfl)⟩, ⟨rfl, (show (x.2.2.2.2.2.2.1 : Int) = (x.1, a0, a1, a2, x.2.2.2.2).2.2.2.2.2.2.1 from by rfl)⟩, ⟨rfl, (show (x.2.2.2.2.2.2.2 : Int) = (x.1, a0, a1, a2, x.2.2.2.2).2.2.2.2.2.2.2 from by rfl)⟩, trivial⟩) ⟨leB.refl _, leB.refl _, trivial⟩
    )
theorem cins_i2 (at_ : List Int) (fine : Bool) (x : EIns) (f : Bool) (a0 : Int) (a1 : Int) (a2 : Int) (ha : 0 ≤ (ofF x.1).1.1 ∧ (ofF x.1).1.1 ≤ 3) : RunN 2 Tryd.prog 48 (finQ Tryd.prog 2 (.agg (Ty.enc tIns ((x.1, a0, a1, stepV at_ (ofF x.1).1.1 2 a2, x.2.2.2.2)))) [.cells 97 [.osl 1 1 at_.length, .bool (f && stepOk at_ (ofF x.1).1.1 2 a2)], .ovec 3 tI at_]) (lp (bodyOf Tryd.f48) 0) (.c (.ptr 0 0 0 0) :: J2 (.c (.ptr 2 0 0 0) :: .c (.ptr 3 0 0 0) :: J16 (J2 (.c (.pre 4 1 (Int.toNat (ofF x.1).1.1)) :: .c (.int .i64 (((Int.toNat (ofF x.1).1.1) : Nat) : Int)) :: .c (.int .i64 2) :: J8 (J4 ([])))))) [.cells 97 [.osl 1 1 at_.length, .bool f], .ovec 3 tI at_, (bCl3 x a0 a1 a2), bCl5, .cells 156 [.ptr 2 0 0 1, .ptr 2 0 0 2, .ptr 2 0 0 3]] :=
  Run.roundA oc22 cins_lv 3000 Tryd.func48 mixed (cins_i2_R at_ fine x f a0 a1 a2) (cins_i2_R_ok at_ fine x f a0 a1 a2) (by
    unfold cins_i2_R
    refine g_iteD (fun h0 => ?_) (fun h0 => ?_)
    · refine g_need (by omega) ?_
      refine g_callH (AFunH.frameB [0, 1] (one_fun at_ f a2) rfl rfl rfl rfl rfl rfl rfl) ?_
      refine g_need (i64_iff.2 (by omega)) ?_
      refine g_stop (RunN.keep [0, 1, 2, 3, 4] (true :: F2 (true :: true :: F16 (F2 (true :: true :: true :: F8 (F4 ([])))))) (show ∀ k, k < 2 → ([0, 1, 2, 3, 4] : List Nat)[k]? = some k by decide) (by decide) rfl rfl ?_)
      have ht := cins_i3 at_ fine x (f && (cutOne at_ a2).2) a0 a1 (cutOne at_ a2).1 ha; have e1 : stepV at_ (ofF x.1).1.1 2 a2 = (cutOne at_ a2).1 := if_pos (by omega); have e2 : stepOk at_ (ofF x.1).1.1 2 a2 = (cutOne at_ a2).2 := if_pos (by omega); rw [e1, e2]; exact ht
    · refine g_fin ?_
      exact g_end [0, 1] (show ∀ k, k < 2 → ([0, 1] : List Nat)[k]? = some k by decide) (by decide) (⟨⟨rfl, (show (x.1 : Int) = (x.1, a0, a1, stepV at_ (ofF x.1).1.1 2 a2, x.2.2.2.2).1 from by first | rfl | exact (if_neg (by omega)).symm | (simp only [stepOk, if_neg (show ¬ (2 : Int) < (ofF x.1).1.1 by omega), Bool.and_true]; done))⟩, ⟨rfl, (show (a0 : Int) = (x.1, a0, a1, stepV at_ (ofF x.1).1.1 2 a2, x.2.2.2.2).2.1 from by first | rfl | exact (if_neg (by omega)).symm | (simp only [stepOk, if_neg (show ¬ (2 : Int) < (ofF x.1).1.1 by omega), Bool.and_true]; done))⟩, ⟨rfl, (show (a1 : Int) = (x.1, a0, a1, stepV at_ (ofF x.1).1.1 2 a2, x.2.2.2.2).2.2.1 from by first | rfl | exact (if_neg (by omega)).symm | (simp only [stepOk, if_neg (show ¬ (2 : Int) < (ofF x.1).1.1 by omega), Bool.and_true]; done))⟩, ⟨rfl, (show (a2 : Int) = (x.1, a0, a1, stepV at_ (ofF x.1).1.1 2 a2, x.2.2.2.2).2.2.2.1 from by first | rfl | exact (if_neg (by omega)).symm | (simp only [stepOk, if_neg (show ¬ (2 : Int) < (ofF x.1).1.1 by omega), Bool.and_true]; done))⟩, ⟨rfl, (show (x.2.2.2.2.1 : Int) = (x.1, a0, a1, stepV at_ (ofF x.1).1.1 2 a2, x.2.2.2.2).2.2.2.2.1 from by first | rfl | exact (if_neg (by omega)).symm | (simp only [stepOk, if_neg (show ¬ (2 : Int) < (ofF x.1).1.1 by omega), Bool.and_true]; done))⟩, ⟨rfl, (show (x.2.2.2.2.2.1 : Int) = (x.1, a0, a1, stepV at_ (ofF x.1).1.1 2 a2, x.2.2.2.2).2.2.2.2.2.1 from by first | rfl | exact (if_neg (by omega)).symm | (simp only [stepOk, if_neg (show ¬ (2 : Int) < (ofF x.1).1.1 by omega), Bool.and_true]; done))⟩, ⟨rfl, (show (x.2.2.2.2.2.2.1 : Int) = (x.1, a0, a1, stepV at_ (ofF x.1).1.1 2 a2, x.2.2.2.2).2.2.2.2.2.2.1 from by first | rfl | exact (if_neg (by omega)).symm | (simp only [stepOk, if_neg (show ¬ (2 : Int) < (ofF x.1).1.1 by omega), Bool.and_true]; done))⟩, ⟨rfl, (show (x.2.2.2.2.2.2.2 : Int) = (x.1, a0, a1, stepV at_ (ofF x.1).1.1 2 a2, x.2.2.2.2).2.2.2.2.2.2.2 from by first | rfl | exact (if_neg (by omega)).symm | (simp only [stepOk, if_neg (show ¬ (2 : Int) < (ofF x.1).1.1 by omega), Bool.and_true]; done))⟩, trivial⟩) ⟨⟨rfl, leC.refl _, (show (f : Bool) = (f && stepOk at_ (ofF x.1).1.1 2 a2) from by first | rfl | exact (if_neg (by omega)).symm | (simp only [stepOk, if_neg (show ¬ (2 : Int) < (ofF x.1).1.1 by omega), Bool.and_true]; done)), trivial⟩, leB.refl _, trivial⟩
    )
theorem cins_i1 (at_ : List Int) (fine : Bool) (x : EIns) (f : Bool) (a0 : Int) (a1 : Int) (a2 : Int) (ha : 0 ≤ (ofF x.1).1.1 ∧ (ofF x.1).1.1 ≤ 3) : RunN 2 Tryd.prog 48 (finQ Tryd.prog 2 (.agg (Ty.enc tIns ((x.1, a0, stepV at_ (ofF x.1).1.1 1 a1, stepV at_ (ofF x.1).1.1 2 a2, x.2.2.2.2)))) [.cells 97 [.osl 1 1 at_.length, .bool (f && (stepOk at_ (ofF x.1).1.1 1 a1 && stepOk at_ (ofF x.1).1.1 2 a2))], .ovec 3 tI at_]) (lp (bodyOf Tryd.f48) 0) (.c (.ptr 0 0 0 0) :: J2 (.c (.ptr 2 0 0 0) :: .c (.ptr 3 0 0 0) :: J16 (J2 (.c (.pre 4 1 (Int.toNat (ofF x.1).1.1)) :: .c (.int .i64 (((Int.toNat (ofF x.1).1.1) : Nat) : Int)) :: .c (.int .i64 1) :: J8 (J4 ([])))))) [.cells 97 [.osl 1 1 at_.length, .bool f], .ovec 3 tI at_, (bCl3 x a0 a1 a2), bCl5, .cells 156 [.ptr 2 0 0 1, .ptr 2 0 0 2, .ptr 2 0 0 3]] :=
  Run.roundA oc22 cins_lv 3000 Tryd.func48 mixed (cins_i1_R at_ fine x f a0 a1 a2) (cins_i1_R_ok at_ fine x f a0 a1 a2) (by
    unfold cins_i1_R
    refine g_iteD (fun h0 => ?_) (fun h0 => ?_)
    · refine g_need (by omega) ?_
      refine g_callH (AFunH.frameB [0, 1] (one_fun at_ f a1) rfl rfl rfl rfl rfl rfl rfl) ?_
      refine g_need (i64_iff.2 (by omega)) ?_
      refine g_stop (RunN.keep [0, 1, 2, 3, 4] (true :: F2 (true :: true :: F16 (F2 (true :: true :: true :: F8 (F4 ([])))))) (show ∀ k, k < 2 → ([0, 1, 2, 3, 4] : List Nat)[k]? = some k by decide) (by decide) rfl rfl ?_)
      have ht := cins_i2 at_ fine x (f && (cutOne at_ a1).2) a0 (cutOne at_ a1).1 a2 ha; have e1 : stepV at_ (ofF x.1).1.1 1 a1 = (cutOne at_ a1).1 := if_pos (by omega); have e2 : stepOk at_ (ofF x.1).1.1 1 a1 = (cutOne at_ a1).2 := if_pos (by omega); rw [e1, e2]; rw [← Bool.and_assoc]; exact ht
    · refine g_fin ?_
      exact g_end [0, 1] (show ∀ k, k < 2 → ([0, 1] : List Nat)[k]? = some k by decide) (by decide) (⟨⟨rfl, (show (x.1 : Int) = (x.1, a0, stepV at_ (ofF x.1).1.1 1 a1, stepV at_ (ofF x.1).1.1 2 a2, x.2.2.2.2).1 from by first | rfl | exact (if_neg (by omega)).symm | (simp only [stepOk, if_neg (show ¬ (1 : Int) < (ofF x.1).1.1 by omega), if_neg (show ¬ (2 : Int) < (ofF x.1).1.1 by omega), Bool.and_true]; done))⟩, ⟨rfl, (show (a0 : Int) = (x.1, a0, stepV at_ (ofF x.1).1.1 1 a1, stepV at_ (ofF x.1).1.1 2 a2, x.2.2.2.2).2.1 from by first | rfl | exact (if_neg (by omega)).symm | (simp only [stepOk, if_neg (show ¬ (1 : Int) < (ofF x.1).1.1 by omega), if_neg (show ¬ (2 : Int) < (ofF x.1).1.1 by omega), Bool.and_true]; done))⟩, ⟨rfl, (show (a1 : Int) = (x.1, a0, stepV at_ (ofF x.1).1.1 1 a1, stepV at_ (ofF x.1).1.1 2 a2, x.2.2.2.2).2.2.1 from by first | rfl | exact (if_neg (by omega)).symm | (simp only [stepOk, if_neg (show ¬ (1 : Int) < (ofF x.1).1.1 by omega), if_neg (show ¬ (2 : Int) < (ofF x.1).1.1 by omega), Bool.and_true]; done))⟩, ⟨rfl, (show (a2 : Int) = (x.1, a0, stepV at_ (ofF x.1).1.1 1 a1, stepV at_ (ofF x.1).1.1 2 a2, x.2.2.2.2).2.2.2.1 from by first | rfl | exact (if_neg (by omega)).symm | (simp only [stepOk, if_neg (show ¬ (1 : Int) < (ofF x.1).1.1 by omega), if_neg (show ¬ (2 : Int) < (ofF x.1).1.1 by omega), Bool.and_true]; done))⟩, ⟨rfl, (show (x.2.2.2.2.1 : Int) = (x.1, a0, stepV at_ (ofF x.1).1.1 1 a1, stepV at_ (ofF x.1).1.1 2 a2, x.2.2.2.2).2.2.2.2.1 from by first | rfl | exact (if_neg (by omega)).symm | (simp only [stepOk, if_neg (show ¬ (1 : Int) < (ofF x.1).1.1 by omega), if_neg (show ¬ (2 : Int) < (ofF x.1).1.1 by omega), Bool.and_true]; done))⟩, ⟨rfl, (show (x.2.2.2.2.2.1 : Int) = (x.1, a0, stepV at_ (ofF x.1).1.1 1 a1, stepV at_ (ofF x.1).1.1 2 a2, x.2.2.2.2).2.2.2.2.2.1 from by first | rfl | exact (if_neg (by omega)).symm | (simp only [stepOk, if_neg (show ¬ (1 : Int) < (ofF x.1).1.1 by omega), if_neg (show ¬ (2 : Int) < (ofF x.1).1.1 by omega), Bool.and_true]; done))⟩, ⟨rfl, (show (x.2.2.2.2.2.2.1 : Int) = (x.1, a0, stepV at_ (ofF x.1).1.1 1 a1, stepV at_ (ofF x.1).1.1 2 a2, x.2.2.2.2).2.2.2.2.2.2.1 from by first | rfl | exact (if_neg (by omega)).symm | (simp only [stepOk, if_neg (show ¬ (1 : Int) < (ofF x.1).1.1 by omega), if_neg (show ¬ (2 : Int) < (ofF x.1).1.1 by omega), Bool.and_true]; done))⟩, ⟨rfl, (show (x.2.2.2.2.2.2.2 : Int) = (x.1, a0, stepV at_ (ofF x.1).1.1 1 a1, stepV at_ (ofF x.1).1.1 2 a2, x.2.2.2.2).2.2.2.2.2.2.2 from by first | rfl | exact (if_neg (by omega)).symm | (simp only [stepOk, if_neg (show ¬ (1 : Int) < (ofF x.1).1.1 by omega), if_neg (show ¬ (2 : Int) < (ofF x.1).1.1 by omega), Bool.and_true]; done))⟩, trivial⟩) ⟨⟨rfl, leC.refl _, (show (f : Bool) = (f && (stepOk at_ (ofF x.1).1.1 1 a1 && stepOk at_ (ofF x.1).1.1 2 a2)) from by first | rfl | exact (if_neg (by omega)).symm | (simp only [stepOk, if_neg (show ¬ (1 : Int) < (ofF x.1).1.1 by omega), if_neg (show ¬ (2 : Int) < (ofF x.1).1.1 by omega), Bool.and_true]; done)), trivial⟩, leB.refl _, trivial⟩
    )
theorem cins_i0 (at_ : List Int) (fine : Bool) (x : EIns) (f : Bool) (a0 : Int) (a1 : Int) (a2 : Int) (ha : 0 ≤ (ofF x.1).1.1 ∧ (ofF x.1).1.1 ≤ 3) : RunN 2 Tryd.prog 48 (finQ Tryd.prog 2 (.agg (Ty.enc tIns ((x.1, stepV at_ (ofF x.1).1.1 0 a0, stepV at_ (ofF x.1).1.1 1 a1, stepV at_ (ofF x.1).1.1 2 a2, x.2.2.2.2)))) [.cells 97 [.osl 1 1 at_.length, .bool (f && (stepOk at_ (ofF x.1).1.1 0 a0 && (stepOk at_ (ofF x.1).1.1 1 a1 && stepOk at_ (ofF x.1).1.1 2 a2)))], .ovec 3 tI at_]) (lp (bodyOf Tryd.f48) 0) (.c (.ptr 0 0 0 0) :: J2 (.c (.ptr 2 0 0 0) :: .c (.ptr 3 0 0 0) :: J16 (J2 (.c (.pre 4 1 (Int.toNat (ofF x.1).1.1)) :: .c (.int .i64 (((Int.toNat (ofF x.1).1.1) : Nat) : Int)) :: .c (.int .i64 0) :: J8 (J4 ([])))))) [.cells 97 [.osl 1 1 at_.length, .bool f], .ovec 3 tI at_, (bCl3 x a0 a1 a2), bCl5, .cells 156 [.ptr 2 0 0 1, .ptr 2 0 0 2, .ptr 2 0 0 3]] :=
  Run.roundA oc22 cins_lv 3000 Tryd.func48 mixed (cins_i0_R at_ fine x f a0 a1 a2) (cins_i0_R_ok at_ fine x f a0 a1 a2) (by
    unfold cins_i0_R
    refine g_iteD (fun h0 => ?_) (fun h0 => ?_)
    · refine g_need (by omega) ?_
      refine g_callH (AFunH.frameB [0, 1] (one_fun at_ f a0) rfl rfl rfl rfl rfl rfl rfl) ?_
      refine g_need (i64_iff.2 (by omega)) ?_
      refine g_stop (RunN.keep [0, 1, 2, 3, 4] (true :: F2 (true :: true :: F16 (F2 (true :: true :: true :: F8 (F4 ([])))))) (show ∀ k, k < 2 → ([0, 1, 2, 3, 4] : List Nat)[k]? = some k by decide) (by decide) rfl rfl ?_)
      have ht := cins_i1 at_ fine x (f && (cutOne at_ a0).2) (cutOne at_ a0).1 a1 a2 ha; have e1 : stepV at_ (ofF x.1).1.1 0 a0 = (cutOne at_ a0).1 := if_pos (by omega); have e2 : stepOk at_ (ofF x.1).1.1 0 a0 = (cutOne at_ a0).2 := if_pos (by omega); rw [e1, e2]; rw [← Bool.and_assoc]; exact ht
    · refine g_fin ?_
      exact g_end [0, 1] (show ∀ k, k < 2 → ([0, 1] : List Nat)[k]? = some k by decide) (by decide) (⟨⟨rfl, (show (x.1 : Int) = (x.1, stepV at_ (ofF x.1).1.1 0 a0, stepV at_ (ofF x.1).1.1 1 a1, stepV at_ (ofF x.1).1.1 2 a2, x.2.2.2.2).1 from by first | rfl | exact (if_neg (by omega)).symm | (simp only [stepOk, if_neg (show ¬ (0 : Int) < (ofF x.1).1.1 by omega), if_neg (show ¬ (1 : Int) < (ofF x.1).1.1 by omega), if_neg (show ¬ (2 : Int) < (ofF x.1).1.1 by omega), Bool.and_true]; done))⟩, ⟨rfl, (show (a0 : Int) = (x.1, stepV at_ (ofF x.1).1.1 0 a0, stepV at_ (ofF x.1).1.1 1 a1, stepV at_ (ofF x.1).1.1 2 a2, x.2.2.2.2).2.1 from by first | rfl | exact (if_neg (by omega)).symm | (simp only [stepOk, if_neg (show ¬ (0 : Int) < (ofF x.1).1.1 by omega), if_neg (show ¬ (1 : Int) < (ofF x.1).1.1 by omega), if_neg (show ¬ (2 : Int) < (ofF x.1).1.1 by omega), Bool.and_true]; done))⟩, ⟨rfl, (show (a1 : Int) = (x.1, stepV at_ (ofF x.1).1.1 0 a0, stepV at_ (ofF x.1).1.1 1 a1, stepV at_ (ofF x.1).1.1 2 a2, x.2.2.2.2).2.2.1 from by first | rfl | exact (if_neg (by omega)).symm | (simp only [stepOk, if_neg (show ¬ (0 : Int) < (ofF x.1).1.1 by omega), if_neg (show ¬ (1 : Int) < (ofF x.1).1.1 by omega), if_neg (show ¬ (2 : Int) < (ofF x.1).1.1 by omega), Bool.and_true]; done))⟩, ⟨rfl, (show (a2 : Int) = (x.1, stepV at_ (ofF x.1).1.1 0 a0, stepV at_ (ofF x.1).1.1 1 a1, stepV at_ (ofF x.1).1.1 2 a2, x.2.2.2.2).2.2.2.1 from by first | rfl | exact (if_neg (by omega)).symm | (simp only [stepOk, if_neg (show ¬ (0 : Int) < (ofF x.1).1.1 by omega), if_neg (show ¬ (1 : Int) < (ofF x.1).1.1 by omega), if_neg (show ¬ (2 : Int) < (ofF x.1).1.1 by omega), Bool.and_true]; done))⟩, ⟨rfl, (show (x.2.2.2.2.1 : Int) = (x.1, stepV at_ (ofF x.1).1.1 0 a0, stepV at_ (ofF x.1).1.1 1 a1, stepV at_ (ofF x.1).1.1 2 a2, x.2.2.2.2).2.2.2.2.1 from by first | rfl | exact (if_neg (by omega)).symm | (simp only [stepOk, if_neg (show ¬ (0 : Int) < (ofF x.1).1.1 by omega), if_neg (show ¬ (1 : Int) < (ofF x.1).1.1 by omega), if_neg (show ¬ (2 : Int) < (ofF x.1).1.1 by omega), Bool.and_true]; done))⟩, ⟨rfl, (show (x.2.2.2.2.2.1 : Int) = (x.1, stepV at_ (ofF x.1).1.1 0 a0, stepV at_ (ofF x.1).1.1 1 a1, stepV at_ (ofF x.1).1.1 2 a2, x.2.2.2.2).2.2.2.2.2.1 from by first | rfl | exact (if_neg (by omega)).symm | (simp only [stepOk, if_neg (show ¬ (0 : Int) < (ofF x.1).1.1 by omega), if_neg (show ¬ (1 : Int) < (ofF x.1).1.1 by omega), if_neg (show ¬ (2 : Int) < (ofF x.1).1.1 by omega), Bool.and_true]; done))⟩, ⟨rfl, (show (x.2.2.2.2.2.2.1 : Int) = (x.1, stepV at_ (ofF x.1).1.1 0 a0, stepV at_ (ofF x.1).1.1 1 a1, stepV at_ (ofF x.1).1.1 2 a2, x.2.2.2.2).2.2.2.2.2.2.1 from by first | rfl | exact (if_neg (by omega)).symm | (simp only [stepOk, if_neg (show ¬ (0 : Int) < (ofF x.1).1.1 by omega), if_neg (show ¬ (1 : Int) < (ofF x.1).1.1 by omega), if_neg (show ¬ (2 : Int) < (ofF x.1).1.1 by omega), Bool.and_true]; done))⟩, ⟨rfl, (show (x.2.2.2.2.2.2.2 : Int) = (x.1, stepV at_ (ofF x.1).1.1 0 a0, stepV at_ (ofF x.1).1.1 1 a1, stepV at_ (ofF x.1).1.1 2 a2, x.2.2.2.2).2.2.2.2.2.2.2 from by first | rfl | exact (if_neg (by omega)).symm | (simp only [stepOk, if_neg (show ¬ (0 : Int) < (ofF x.1).1.1 by omega), if_neg (show ¬ (1 : Int) < (ofF x.1).1.1 by omega), if_neg (show ¬ (2 : Int) < (ofF x.1).1.1 by omega), Bool.and_true]; done))⟩, trivial⟩) ⟨⟨rfl, leC.refl _, (show (f : Bool) = (f && (stepOk at_ (ofF x.1).1.1 0 a0 && (stepOk at_ (ofF x.1).1.1 1 a1 && stepOk at_ (ofF x.1).1.1 2 a2))) from by first | rfl | exact (if_neg (by omega)).symm | (simp only [stepOk, if_neg (show ¬ (0 : Int) < (ofF x.1).1.1 by omega), if_neg (show ¬ (1 : Int) < (ofF x.1).1.1 by omega), if_neg (show ¬ (2 : Int) < (ofF x.1).1.1 by omega), Bool.and_true]; done)), trivial⟩, leB.refl _, trivial⟩
    )
theorem cins_fun (at_ : List Int) (fine : Bool) (x : EIns) : AFunH Tryd.prog 48 [.c (.ptr 0 0 0 0), .agg (tIns.enc x)] [.cells 97 [.osl 1 1 at_.length, .bool fine], .ovec 3 tI at_] (.agg (Ty.enc tIns (cutIns at_ x))) [.cells 97 [.osl 1 1 at_.length, .bool (fine && cutInsOk at_ x)], .ovec 3 tI at_] (List.range 2) :=
  AFunH.ofL oc22 cins_lv 3000 Tryd.func48 mixed rfl (by decide) (Nat.le_of_ble_eq_true rfl) rfl rfl (Nat.le_of_ble_eq_true rfl) _ (cins_T_ok at_ fine x) fun hF => by
    have ha := ofF_asks x.1
    unfold cins_T
    refine g_call (of__fun x.1) (fun h => nomatch h) ?_
    refine g_ite (fun h0 => ?_) (fun h0 => ?_)
    · refine g_need (by first | omega | (constructor <;> omega) | (rw [i64_iff]; omega) | (rw [i64_iff]; constructor <;> omega) | rfl | (simp; done) | (simp; omega)) ?_
      refine g_stop (RunN.keep [0, 1, 2, 3, 5] (true :: F2 (true :: true :: F16 (F2 (true :: true :: true :: F8 (F4 ([])))))) (show ∀ k, k < 2 → ([0, 1, 2, 3, 5] : List Nat)[k]? = some k by decide) (by decide) rfl rfl ?_)
      have ht := cins_i0 at_ fine x fine x.2.1 x.2.2.1 x.2.2.2.1 ha; have e : cutAsks x.1 = (ofF x.1).1.1 := if_pos h0; simp only [cutIns, cutInsOk, e]; exact ht
    · refine g_fin ?_
      exact g_end [0, 1] (show ∀ k, k < 2 → ([0, 1] : List Nat)[k]? = some k by decide) (by decide) (⟨⟨rfl, (show (x.1 : Int) = (cutIns at_ x).1 from by simp only [cutIns, cutInsOk, stepV, stepOk, cutAsks, h0, if_false, Bool.false_eq_true, Int.lt_irrefl, Bool.and_true] <;> first | done | rfl | simp)⟩, ⟨rfl, (show (x.2.1 : Int) = (cutIns at_ x).2.1 from by simp only [cutIns, cutInsOk, stepV, stepOk, cutAsks, h0, if_false, Bool.false_eq_true, Int.lt_irrefl, Bool.and_true] <;> first | done | rfl | simp)⟩, ⟨rfl, (show (x.2.2.1 : Int) = (cutIns at_ x).2.2.1 from by simp only [cutIns, cutInsOk, stepV, stepOk, cutAsks, h0, if_false, Bool.false_eq_true, Int.lt_irrefl, Bool.and_true] <;> first | done | rfl | simp)⟩, ⟨rfl, (show (x.2.2.2.1 : Int) = (cutIns at_ x).2.2.2.1 from by simp only [cutIns, cutInsOk, stepV, stepOk, cutAsks, h0, if_false, Bool.false_eq_true, Int.lt_irrefl, Bool.and_true] <;> first | done | rfl | simp)⟩, ⟨rfl, (show (x.2.2.2.2.1 : Int) = (cutIns at_ x).2.2.2.2.1 from by simp only [cutIns, cutInsOk, stepV, stepOk, cutAsks, h0, if_false, Bool.false_eq_true, Int.lt_irrefl, Bool.and_true] <;> first | done | rfl | simp)⟩, ⟨rfl, (show (x.2.2.2.2.2.1 : Int) = (cutIns at_ x).2.2.2.2.2.1 from by simp only [cutIns, cutInsOk, stepV, stepOk, cutAsks, h0, if_false, Bool.false_eq_true, Int.lt_irrefl, Bool.and_true] <;> first | done | rfl | simp)⟩, ⟨rfl, (show (x.2.2.2.2.2.2.1 : Int) = (cutIns at_ x).2.2.2.2.2.2.1 from by simp only [cutIns, cutInsOk, stepV, stepOk, cutAsks, h0, if_false, Bool.false_eq_true, Int.lt_irrefl, Bool.and_true] <;> first | done | rfl | simp)⟩, ⟨rfl, (show (x.2.2.2.2.2.2.2 : Int) = (cutIns at_ x).2.2.2.2.2.2.2 from by simp only [cutIns, cutInsOk, stepV, stepOk, cutAsks, h0, if_false, Bool.false_eq_true, Int.lt_irrefl, Bool.and_true] <;> first | done | rfl | simp)⟩, trivial⟩) ⟨⟨rfl, leC.refl _, (show (fine : Bool) = (fine && cutInsOk at_ x) from by simp only [cutIns, cutInsOk, stepV, stepOk, cutAsks, h0, if_false, Bool.false_eq_true, Int.lt_irrefl, Bool.and_true] <;> first | done | rfl | simp), trivial⟩, leB.refl _, trivial⟩

end Go.Proofs.YtefkifdhjabdiaaDoor
namespace Go.Proofs.YtefkifdhjabdiaaDoor
set_option linter.unusedVariables false
set_option linter.unusedSimpArgs false
set_option maxRecDepth 100000
def cutLoop (loop : Int) : Nat → List EIns → List Int → List Int → Bool → Int → List EIns → Option (List Int × Bool × Int × List EIns)
  | i, x :: xs, n :: ns, at_, f, lo, ins =>
    if n = (i : Int) then cutLoop loop (i + 1) xs ns (at_ ++ [(ins.length : Int)]) (f && cutInsOk (at_ ++ [(ins.length : Int)]) x) (if (i : Int) = loop then (ins.length : Int) else lo) (ins ++ [cutIns (at_ ++ [(ins.length : Int)]) x])
    else if n = -1 then cutLoop loop (i + 1) xs ns (at_ ++ [-1]) f (if (i : Int) = loop then (ins.length : Int) else lo) ins
    else if 0 ≤ n then (if n < (i : Int) then cutLoop loop (i + 1) xs ns (at_ ++ [at_.getD n.toNat tI.dflt]) f (if (i : Int) = loop then (ins.length : Int) else lo) ins else none) else none
  | _, _, _, at_, f, lo, ins => some (at_, f, lo, ins)
def noT : ETrace := (0, 0, 0, [], [], (0, 0, [], []), (0, 0, [], []))
def endF (t : ETrace) (at_ : List Int) (f : Bool) (lo : Int) (ins : List EIns) (xs : List EExit) (k : Nat) : ETrace × Int := if (f && ((t.2.2.2.2.1.drop k).all (cutExitOk at_) && (cutExitOk at_ t.2.2.2.2.2.1 && cutExitOk at_ t.2.2.2.2.2.2))) = true then ((t.1, t.2.1, lo, ins, xs ++ (t.2.2.2.2.1.drop k).map (cutExit at_), cutExit at_ t.2.2.2.2.2.1, cutExit at_ t.2.2.2.2.2.2), 0) else (noT, 3)
section
variable {t : ETrace} {at_ : List Int} {f : Bool} {lo : Int} {ins : List EIns} {xs : List EExit} {k : Nat}
theorem endF_t (hk : t.2.2.2.2.1.length ≤ k) (h : ((f && cutExitOk at_ t.2.2.2.2.2.1) && cutExitOk at_ t.2.2.2.2.2.2) = true) : endF t at_ f lo ins xs k = ((t.1, t.2.1, lo, ins, xs, cutExit at_ t.2.2.2.2.2.1, cutExit at_ t.2.2.2.2.2.2), 0) := by
  unfold endF
  rw [List.drop_eq_nil_of_le hk, List.all_nil, Bool.true_and, ← Bool.and_assoc, if_pos h, List.map_nil, List.append_nil]
theorem endF_f (hk : t.2.2.2.2.1.length ≤ k) (h : ((f && cutExitOk at_ t.2.2.2.2.2.1) && cutExitOk at_ t.2.2.2.2.2.2) = false) : endF t at_ f lo ins xs k = (noT, 3) := by
  unfold endF
  rw [List.drop_eq_nil_of_le hk, List.all_nil, Bool.true_and, ← Bool.and_assoc, if_neg (by rw [h]; decide)]
theorem endF_step (hk : k < t.2.2.2.2.1.length) : endF t at_ f lo ins xs k = endF t at_ (f && cutExitOk at_ (t.2.2.2.2.1.getD k tExit.dflt)) lo ins (xs ++ [cutExit at_ (t.2.2.2.2.1.getD k tExit.dflt)]) (k + 1) := by
  unfold endF
  rw [dropCons (α := EExit) (Ty.dflt tExit) hk, List.all_cons, List.map_cons, List.append_cons]
  simp only [Bool.and_assoc]
end
def cutEnd (t : ETrace) (at_ : List Int) (f : Bool) (lo : Int) (ins : List EIns) : ETrace × Int := endF t at_ f lo ins [] 0
def loopAt (t : ETrace) (lo : Int) (n : Nat) : Int := if t.2.2.1 ≤ 0 then 0 else if (t.2.2.2.1.length : Int) ≤ t.2.2.1 then (n : Int) else lo
def cutThen (t : ETrace) : Option (List Int × Bool × Int × List EIns) → ETrace × Int
  | none => (noT, 3)
  | some r => cutEnd t r.1 r.2.1 (loopAt t r.2.2.1 r.2.2.2.length) r.2.2.2
def cutF (t : ETrace) (to : List Int) : ETrace × Int := if to.length = t.2.2.2.1.length then cutThen t (cutLoop t.2.2.1 0 t.2.2.2.1 to [] true 0 []) else (noT, 3)
def traceSm (t : ETrace) : Prop := t.2.2.2.1.length ≤ 1000000 ∧ (t.2.2.2.2.1.length ≤ 1000000 ∧ ∀ x ∈ t.2.2.2.2.1, exitSm x) ∧ exitSm t.2.2.2.2.2.1 ∧ exitSm t.2.2.2.2.2.2
noncomputable def oc23 : Orc where
  pure := fun f args => match f, args with
    | _, _ => none
  heap := fun f args H => match f, args with
    | 48, [.one (.c (.ptr b0 0 0 0)), a1] => match cellsAs 97 H[b0]? with
      | some [.osl b1 1 _, c0_1] => (match dA tIns a1, dC .bool c0_1, ovecAs 3 tI H[b1]? with
        | some x1, some y0_1, some y1 => hres [b0, b1] H (.agg (Ty.enc tIns (cutIns y1 x1))) [.cells 97 [.osl 1 1 y1.length, .bool (y0_1 && cutInsOk y1 x1)], .ovec 3 tI y1]
        | _, _, _ => none)
      | _ => none
    | 49, [.one (.c (.ptr b0 0 0 0)), a1] => match cellsAs 97 H[b0]? with
      | some [.osl b1 1 _, c0_1] => (match dA tExit a1, dC .bool c0_1, ovecAs 3 tI H[b1]? with
        | some x1, some y0_1, some y1 => hres [b0, b1] H (.agg (Ty.enc tExit (cutExit y1 x1))) [.cells 97 [.osl 1 1 y1.length, .bool (y0_1 && cutExitOk y1 x1)], .ovec 3 tI y1]
        | _, _, _ => none)
      | _ => none
    | _, _ => none
def cut_lv : LV := ⟨(false :: true :: true :: false :: true :: false :: true :: true :: F16 (F4 (true :: true :: true :: F32 (F32 (F16 (F8 (F4 (false :: true :: true :: true :: F16 (F8 (F4 (false :: []))))))))))), [24]⟩
abbrev bCm8 : AB := .cells 29 [.int .i64 0, .int .i64 0, .int .i64 0, .nilsl, .nilsl, .int .i64 0, .int .i64 0, .nilsl, .nilsl, .int .i64 0, .int .i64 0, .nilsl, .nilsl]
abbrev bCm9 : List CV := [.int .i64 0, .int .i64 0, .int .i64 0, .nilsl, .nilsl, .int .i64 0, .int .i64 0, .nilsl, .nilsl, .int .i64 0, .int .i64 0, .nilsl, .nilsl]
noncomputable def cut_T (t : ETrace) (to : List Int) : Tree :=
  .ite ((!(decide ((to.length : Int) = (t.2.2.2.1.length : Int)))))
  (.ret (.tup [.agg bCm9, .c (.int .i64 3)]) [.cells 29 (Ty.enc tTrace t), bCm8])
  (.stop (lp (bodyOf Tryd.f22) 0) (.junk :: .c (.ro tI to) :: .c (.ptr 0 0 0 0) :: .junk :: .c (.ptr 1 0 0 0) :: .junk :: .c (.ptr 2 0 0 0) :: .c (.ptr 3 0 0 0) :: J16 (J4 (.c (.ro tIns t.2.2.2.1) :: .c (.int .i64 (t.2.2.2.1.length : Int)) :: .c (.int .i64 0) :: J32 (J32 (J32 (J16 (J8 (J4 (.junk :: []))))))))) [.cells 29 (Ty.enc tTrace t), bCm8, .cells 97 [.nilsl, .lit true], .cells 29 [.int .i64 t.1, .int .i64 t.2.1, .int .i64 0, .nilsl, .nilsl, .int .i64 0, .int .i64 0, .nilsl, .nilsl, .int .i64 0, .int .i64 0, .nilsl, .nilsl]])
theorem cut_T_ok (t : ETrace) (to : List Int) : aRun Tryd.prog oc23 Tryd.f22 cut_lv 3000 [.code (bodyOf Tryd.f22)] ([.agg (tTrace.enc t), .c (.ro tI to)] ++ List.replicate (Func.ntmps Tryd.f22 - 2) .junk) [] = cut_T t to := by kernel_rfl
abbrev bCm1 (t : ETrace) (i : Nat) : AB := .cells 46 [.int .i64 (t.2.2.2.1.getD i tIns.dflt).1, .int .i64 (t.2.2.2.1.getD i tIns.dflt).2.1, .int .i64 (t.2.2.2.1.getD i tIns.dflt).2.2.1, .int .i64 (t.2.2.2.1.getD i tIns.dflt).2.2.2.1, .int .i64 (t.2.2.2.1.getD i tIns.dflt).2.2.2.2.1, .int .i64 (t.2.2.2.1.getD i tIns.dflt).2.2.2.2.2.1, .int .i64 (t.2.2.2.1.getD i tIns.dflt).2.2.2.2.2.2.1, .int .i64 (t.2.2.2.1.getD i tIns.dflt).2.2.2.2.2.2.2]
abbrev bCm3 (t : ETrace) (ins : List EIns) : AB := .cells 29 [.int .i64 t.1, .int .i64 t.2.1, .int .i64 ((ins.length : Nat) : Int), .osl 5 8 ins.length, .nilsl, .int .i64 0, .int .i64 0, .nilsl, .nilsl, .int .i64 0, .int .i64 0, .nilsl, .nilsl]
abbrev bCm5 (t : ETrace) (lo : Int) (ins : List EIns) : AB := .cells 29 [.int .i64 t.1, .int .i64 t.2.1, .int .i64 lo, .osl 5 8 ins.length, .nilsl, .int .i64 0, .int .i64 0, .nilsl, .nilsl, .int .i64 0, .int .i64 0, .nilsl, .nilsl]
abbrev bCm6 (t : ETrace) (i : Nat) : List AV := (J4 (.c (.ro tIns t.2.2.2.1) :: .c (.int .i64 (t.2.2.2.1.length : Int)) :: .c (.int .i64 (((i : Nat) : Int) + 1)) :: J32 (J32 (J32 (J16 (J8 (J4 (.junk :: []))))))))
abbrev bCm7 (t : ETrace) (i : Nat) : List AV := (J4 (.c (.ro tIns t.2.2.2.1) :: .c (.int .i64 (t.2.2.2.1.length : Int)) :: .c (.int .i64 ((i : Nat) : Int)) :: J32 (J32 (J32 (J16 (J8 (J4 (.junk :: []))))))))
noncomputable def cut_l0_R (t : ETrace) (to : List Int) (i : Nat) (f : Bool) (lo : Int) (at_ : List Int) (ins : List EIns) : Tree :=
  .ite (decide (((i : Nat) : Int) < (t.2.2.2.1.length : Int)))
  (.need ((0 : Int) ≤ ((i : Nat) : Int) ∧ (((i : Nat) : Int) : Int) < (t.2.2.2.1.length : Int)) <|
   .need (i < t.2.2.2.1.length) <|
   .ite (decide (((i : Nat) : Int) = t.2.2.1))
   (.need ((0 : Int) ≤ ((i : Nat) : Int) ∧ (((i : Nat) : Int) : Int) < (to.length : Int)) <|
    .need (i < to.length) <|
    .ite (decide ((to.getD i tI.dflt) = ((i : Nat) : Int)))
    (.need (at_.length = at_.length) <|
     .need (0 = 0 ∧ 1 = ([((ins.length : Nat) : Int)]).length) <|
     .need ((at_.length + ([((ins.length : Nat) : Int)]).length) * 8 ≤ 140737488355328) <|
     .callH 48 [.c (.ptr 2 0 0 0), .agg [.int .i64 (t.2.2.2.1.getD i tIns.dflt).1, .int .i64 (t.2.2.2.1.getD i tIns.dflt).2.1, .int .i64 (t.2.2.2.1.getD i tIns.dflt).2.2.1, .int .i64 (t.2.2.2.1.getD i tIns.dflt).2.2.2.1, .int .i64 (t.2.2.2.1.getD i tIns.dflt).2.2.2.2.1, .int .i64 (t.2.2.2.1.getD i tIns.dflt).2.2.2.2.2.1, .int .i64 (t.2.2.2.1.getD i tIns.dflt).2.2.2.2.2.2.1, .int .i64 (t.2.2.2.1.getD i tIns.dflt).2.2.2.2.2.2.2]] [.cells 29 (Ty.enc tTrace t), bCm8, .cells 97 [.osl 8 1 (at_ ++ [((ins.length : Nat) : Int)]).length, .bool f], (bCm3 t ins), .dead, .ovec 46 tIns ins, (bCm1 t i), .vec 3 tI ([((ins.length : Nat) : Int)]), .ovec 3 tI (at_ ++ [((ins.length : Nat) : Int)])] (.agg [.int .i64 (cutIns (at_ ++ [((ins.length : Nat) : Int)]) (t.2.2.2.1.getD i tIns.dflt)).1, .int .i64 (cutIns (at_ ++ [((ins.length : Nat) : Int)]) (t.2.2.2.1.getD i tIns.dflt)).2.1, .int .i64 (cutIns (at_ ++ [((ins.length : Nat) : Int)]) (t.2.2.2.1.getD i tIns.dflt)).2.2.1, .int .i64 (cutIns (at_ ++ [((ins.length : Nat) : Int)]) (t.2.2.2.1.getD i tIns.dflt)).2.2.2.1, .int .i64 (cutIns (at_ ++ [((ins.length : Nat) : Int)]) (t.2.2.2.1.getD i tIns.dflt)).2.2.2.2.1, .int .i64 (cutIns (at_ ++ [((ins.length : Nat) : Int)]) (t.2.2.2.1.getD i tIns.dflt)).2.2.2.2.2.1, .int .i64 (cutIns (at_ ++ [((ins.length : Nat) : Int)]) (t.2.2.2.1.getD i tIns.dflt)).2.2.2.2.2.2.1, .int .i64 (cutIns (at_ ++ [((ins.length : Nat) : Int)]) (t.2.2.2.1.getD i tIns.dflt)).2.2.2.2.2.2.2]) [.cells 29 (Ty.enc tTrace t), bCm8, .cells 97 [.osl 8 1 (at_ ++ [((ins.length : Nat) : Int)]).length, .bool (f && cutInsOk (at_ ++ [((ins.length : Nat) : Int)]) (t.2.2.2.1.getD i tIns.dflt))], (bCm3 t ins), .dead, .ovec 46 tIns ins, (bCm1 t i), .vec 3 tI ([((ins.length : Nat) : Int)]), .ovec 3 tI (at_ ++ [((ins.length : Nat) : Int)])] [2, 8] <|
     .need (ins.length = ins.length) <|
     .need (0 = 0 ∧ 1 = ([(cutIns (at_ ++ [((ins.length : Nat) : Int)]) (t.2.2.2.1.getD i tIns.dflt))]).length) <|
     .need ((ins.length + ([(cutIns (at_ ++ [((ins.length : Nat) : Int)]) (t.2.2.2.1.getD i tIns.dflt))]).length) * 64 ≤ 140737488355328) <|
     .need (inR .i64 (((i : Nat) : Int) + 1)) <|
     .stop (lp (bodyOf Tryd.f22) 0) (.junk :: .c (.ro tI to) :: .c (.ptr 0 0 0 0) :: .junk :: .c (.ptr 1 0 0 0) :: .junk :: .c (.ptr 2 0 0 0) :: .c (.ptr 3 0 0 0) :: J16 (bCm6 t i)) [.cells 29 (Ty.enc tTrace t), bCm8, .cells 97 [.osl 8 1 (at_ ++ [((ins.length : Nat) : Int)]).length, .bool (f && cutInsOk (at_ ++ [((ins.length : Nat) : Int)]) (t.2.2.2.1.getD i tIns.dflt))], .cells 29 [.int .i64 t.1, .int .i64 t.2.1, .int .i64 ((ins.length : Nat) : Int), .osl 10 8 (ins ++ [(cutIns (at_ ++ [((ins.length : Nat) : Int)]) (t.2.2.2.1.getD i tIns.dflt))]).length, .nilsl, .int .i64 0, .int .i64 0, .nilsl, .nilsl, .int .i64 0, .int .i64 0, .nilsl, .nilsl], .dead, .dead, (bCm1 t i), .vec 3 tI ([((ins.length : Nat) : Int)]), .ovec 3 tI (at_ ++ [((ins.length : Nat) : Int)]), .vec 46 tIns ([(cutIns (at_ ++ [((ins.length : Nat) : Int)]) (t.2.2.2.1.getD i tIns.dflt))]), .ovec 46 tIns (ins ++ [(cutIns (at_ ++ [((ins.length : Nat) : Int)]) (t.2.2.2.1.getD i tIns.dflt))])])
    (.ite (decide ((to.getD i tI.dflt) = (-1)))
     (.need (at_.length = at_.length) <|
      .need (0 = 0 ∧ 1 = ([(-1)]).length) <|
      .need ((at_.length + ([(-1)]).length) * 8 ≤ 140737488355328) <|
      .need (inR .i64 (((i : Nat) : Int) + 1)) <|
      .stop (lp (bodyOf Tryd.f22) 0) (.junk :: .c (.ro tI to) :: .c (.ptr 0 0 0 0) :: .junk :: .c (.ptr 1 0 0 0) :: .junk :: .c (.ptr 2 0 0 0) :: .c (.ptr 3 0 0 0) :: J16 (bCm6 t i)) [.cells 29 (Ty.enc tTrace t), bCm8, .cells 97 [.osl 8 1 (at_ ++ [(-1)]).length, .bool f], (bCm3 t ins), .dead, .ovec 46 tIns ins, (bCm1 t i), .vec 3 tI ([(-1)]), .ovec 3 tI (at_ ++ [(-1)])])
     (.ite (decide ((0 : Int) ≤ (to.getD i tI.dflt)))
      (.ite (decide ((to.getD i tI.dflt) < ((i : Nat) : Int)))
       (.need ((0 : Int) ≤ (to.getD i tI.dflt) ∧ ((to.getD i tI.dflt) : Int) < ((at_.length : Nat) : Int)) <|
        .need ((Int.toNat (to.getD i tI.dflt)) < at_.length) <|
        .need (at_.length = at_.length) <|
        .need (0 = 0 ∧ 1 = ([(at_.getD (Int.toNat (to.getD i tI.dflt)) tI.dflt)]).length) <|
        .need ((at_.length + ([(at_.getD (Int.toNat (to.getD i tI.dflt)) tI.dflt)]).length) * 8 ≤ 140737488355328) <|
        .need (inR .i64 (((i : Nat) : Int) + 1)) <|
        .stop (lp (bodyOf Tryd.f22) 0) (.junk :: .c (.ro tI to) :: .c (.ptr 0 0 0 0) :: .junk :: .c (.ptr 1 0 0 0) :: .junk :: .c (.ptr 2 0 0 0) :: .c (.ptr 3 0 0 0) :: J16 (bCm6 t i)) [.cells 29 (Ty.enc tTrace t), bCm8, .cells 97 [.osl 8 1 (at_ ++ [(at_.getD (Int.toNat (to.getD i tI.dflt)) tI.dflt)]).length, .bool f], (bCm3 t ins), .dead, .ovec 46 tIns ins, (bCm1 t i), .vec 3 tI ([(at_.getD (Int.toNat (to.getD i tI.dflt)) tI.dflt)]), .ovec 3 tI (at_ ++ [(at_.getD (Int.toNat (to.getD i tI.dflt)) tI.dflt)])])
       (.ret (.tup [.agg bCm9, .c (.int .i64 3)]) [.cells 29 (Ty.enc tTrace t), bCm8, .cells 97 [.osl 4 1 at_.length, .bool f], (bCm3 t ins), .ovec 3 tI at_, .ovec 46 tIns ins, (bCm1 t i)]))
      (.ret (.tup [.agg bCm9, .c (.int .i64 3)]) [.cells 29 (Ty.enc tTrace t), bCm8, .cells 97 [.osl 4 1 at_.length, .bool f], (bCm3 t ins), .ovec 3 tI at_, .ovec 46 tIns ins, (bCm1 t i)]))))
   (.need ((0 : Int) ≤ ((i : Nat) : Int) ∧ (((i : Nat) : Int) : Int) < (to.length : Int)) <|
    .need (i < to.length) <|
    .ite (decide ((to.getD i tI.dflt) = ((i : Nat) : Int)))
    (.need (at_.length = at_.length) <|
     .need (0 = 0 ∧ 1 = ([((ins.length : Nat) : Int)]).length) <|
     .need ((at_.length + ([((ins.length : Nat) : Int)]).length) * 8 ≤ 140737488355328) <|
     .callH 48 [.c (.ptr 2 0 0 0), .agg [.int .i64 (t.2.2.2.1.getD i tIns.dflt).1, .int .i64 (t.2.2.2.1.getD i tIns.dflt).2.1, .int .i64 (t.2.2.2.1.getD i tIns.dflt).2.2.1, .int .i64 (t.2.2.2.1.getD i tIns.dflt).2.2.2.1, .int .i64 (t.2.2.2.1.getD i tIns.dflt).2.2.2.2.1, .int .i64 (t.2.2.2.1.getD i tIns.dflt).2.2.2.2.2.1, .int .i64 (t.2.2.2.1.getD i tIns.dflt).2.2.2.2.2.2.1, .int .i64 (t.2.2.2.1.getD i tIns.dflt).2.2.2.2.2.2.2]] [.cells 29 (Ty.enc tTrace t), bCm8, .cells 97 [.osl 8 1 (at_ ++ [((ins.length : Nat) : Int)]).length, .bool f], (bCm5 t lo ins), .dead, .ovec 46 tIns ins, (bCm1 t i), .vec 3 tI ([((ins.length : Nat) : Int)]), .ovec 3 tI (at_ ++ [((ins.length : Nat) : Int)])] (.agg [.int .i64 (cutIns (at_ ++ [((ins.length : Nat) : Int)]) (t.2.2.2.1.getD i tIns.dflt)).1, .int .i64 (cutIns (at_ ++ [((ins.length : Nat) : Int)]) (t.2.2.2.1.getD i tIns.dflt)).2.1, .int .i64 (cutIns (at_ ++ [((ins.length : Nat) : Int)]) (t.2.2.2.1.getD i tIns.dflt)).2.2.1, .int .i64 (cutIns (at_ ++ [((ins.length : Nat) : Int)]) (t.2.2.2.1.getD i tIns.dflt)).2.2.2.1, .int .i64 (cutIns (at_ ++ [((ins.length : Nat) : Int)]) (t.2.2.2.1.getD i tIns.dflt)).2.2.2.2.1, .int .i64 (cutIns (at_ ++ [((ins.length : Nat) : Int)]) (t.2.2.2.1.getD i tIns.dflt)).2.2.2.2.2.1, .int .i64 (cutIns (at_ ++ [((ins.length : Nat) : Int)]) (t.2.2.2.1.getD i tIns.dflt)).2.2.2.2.2.2.1, .int .i64 (cutIns (at_ ++ [((ins.length : Nat) : Int)]) (t.2.2.2.1.getD i tIns.dflt)).2.2.2.2.2.2.2]) [.cells 29 (Ty.enc tTrace t), bCm8, .cells 97 [.osl 8 1 (at_ ++ [((ins.length : Nat) : Int)]).length, .bool (f && cutInsOk (at_ ++ [((ins.length : Nat) : Int)]) (t.2.2.2.1.getD i tIns.dflt))], (bCm5 t lo ins), .dead, .ovec 46 tIns ins, (bCm1 t i), .vec 3 tI ([((ins.length : Nat) : Int)]), .ovec 3 tI (at_ ++ [((ins.length : Nat) : Int)])] [2, 8] <|
     .need (ins.length = ins.length) <|
     .need (0 = 0 ∧ 1 = ([(cutIns (at_ ++ [((ins.length : Nat) : Int)]) (t.2.2.2.1.getD i tIns.dflt))]).length) <|
     .need ((ins.length + ([(cutIns (at_ ++ [((ins.length : Nat) : Int)]) (t.2.2.2.1.getD i tIns.dflt))]).length) * 64 ≤ 140737488355328) <|
     .need (inR .i64 (((i : Nat) : Int) + 1)) <|
     .stop (lp (bodyOf Tryd.f22) 0) (.junk :: .c (.ro tI to) :: .c (.ptr 0 0 0 0) :: .junk :: .c (.ptr 1 0 0 0) :: .junk :: .c (.ptr 2 0 0 0) :: .c (.ptr 3 0 0 0) :: J16 (bCm6 t i)) [.cells 29 (Ty.enc tTrace t), bCm8, .cells 97 [.osl 8 1 (at_ ++ [((ins.length : Nat) : Int)]).length, .bool (f && cutInsOk (at_ ++ [((ins.length : Nat) : Int)]) (t.2.2.2.1.getD i tIns.dflt))], .cells 29 [.int .i64 t.1, .int .i64 t.2.1, .int .i64 lo, .osl 10 8 (ins ++ [(cutIns (at_ ++ [((ins.length : Nat) : Int)]) (t.2.2.2.1.getD i tIns.dflt))]).length, .nilsl, .int .i64 0, .int .i64 0, .nilsl, .nilsl, .int .i64 0, .int .i64 0, .nilsl, .nilsl], .dead, .dead, (bCm1 t i), .vec 3 tI ([((ins.length : Nat) : Int)]), .ovec 3 tI (at_ ++ [((ins.length : Nat) : Int)]), .vec 46 tIns ([(cutIns (at_ ++ [((ins.length : Nat) : Int)]) (t.2.2.2.1.getD i tIns.dflt))]), .ovec 46 tIns (ins ++ [(cutIns (at_ ++ [((ins.length : Nat) : Int)]) (t.2.2.2.1.getD i tIns.dflt))])])
    (.ite (decide ((to.getD i tI.dflt) = (-1)))
     (.need (at_.length = at_.length) <|
      .need (0 = 0 ∧ 1 = ([(-1)]).length) <|
      .need ((at_.length + ([(-1)]).length) * 8 ≤ 140737488355328) <|
      .need (inR .i64 (((i : Nat) : Int) + 1)) <|
      .stop (lp (bodyOf Tryd.f22) 0) (.junk :: .c (.ro tI to) :: .c (.ptr 0 0 0 0) :: .junk :: .c (.ptr 1 0 0 0) :: .junk :: .c (.ptr 2 0 0 0) :: .c (.ptr 3 0 0 0) :: J16 (bCm6 t i)) [.cells 29 (Ty.enc tTrace t), bCm8, .cells 97 [.osl 8 1 (at_ ++ [(-1)]).length, .bool f], (bCm5 t lo ins), .dead, .ovec 46 tIns ins, (bCm1 t i), .vec 3 tI ([(-1)]), .ovec 3 tI (at_ ++ [(-1)])])
     (.ite (decide ((0 : Int) ≤ (to.getD i tI.dflt)))
      (.ite (decide ((to.getD i tI.dflt) < ((i : Nat) : Int)))
       (.need ((0 : Int) ≤ (to.getD i tI.dflt) ∧ ((to.getD i tI.dflt) : Int) < ((at_.length : Nat) : Int)) <|
        .need ((Int.toNat (to.getD i tI.dflt)) < at_.length) <|
        .need (at_.length = at_.length) <|
        .need (0 = 0 ∧ 1 = ([(at_.getD (Int.toNat (to.getD i tI.dflt)) tI.dflt)]).length) <|
        .need ((at_.length + ([(at_.getD (Int.toNat (to.getD i tI.dflt)) tI.dflt)]).length) * 8 ≤ 140737488355328) <|
        .need (inR .i64 (((i : Nat) : Int) + 1)) <|
        .stop (lp (bodyOf Tryd.f22) 0) (.junk :: .c (.ro tI to) :: .c (.ptr 0 0 0 0) :: .junk :: .c (.ptr 1 0 0 0) :: .junk :: .c (.ptr 2 0 0 0) :: .c (.ptr 3 0 0 0) :: J16 (bCm6 t i)) [.cells 29 (Ty.enc tTrace t), bCm8, .cells 97 [.osl 8 1 (at_ ++ [(at_.getD (Int.toNat (to.getD i tI.dflt)) tI.dflt)]).length, .bool f], (bCm5 t lo ins), .dead, .ovec 46 tIns ins, (bCm1 t i), .vec 3 tI ([(at_.getD (Int.toNat (to.getD i tI.dflt)) tI.dflt)]), .ovec 3 tI (at_ ++ [(at_.getD (Int.toNat (to.getD i tI.dflt)) tI.dflt)])])
       (.ret (.tup [.agg bCm9, .c (.int .i64 3)]) [.cells 29 (Ty.enc tTrace t), bCm8, .cells 97 [.osl 4 1 at_.length, .bool f], (bCm5 t lo ins), .ovec 3 tI at_, .ovec 46 tIns ins, (bCm1 t i)]))
      (.ret (.tup [.agg bCm9, .c (.int .i64 3)]) [.cells 29 (Ty.enc tTrace t), bCm8, .cells 97 [.osl 4 1 at_.length, .bool f], (bCm5 t lo ins), .ovec 3 tI at_, .ovec 46 tIns ins, (bCm1 t i)])))))
  (.ite (decide ((t.2.2.2.1.length : Int) ≤ t.2.2.1))
   (.ite (decide (t.2.2.1 ≤ 0))
    (.stop (rg (bodyOf Tryd.f22) 24) (.junk :: .c (.ro tI to) :: .c (.ptr 0 0 0 0) :: .junk :: .c (.ptr 1 0 0 0) :: .junk :: .c (.ptr 2 0 0 0) :: .c (.ptr 3 0 0 0) :: J16 (bCm7 t i)) [.cells 29 (Ty.enc tTrace t), bCm8, .cells 97 [.osl 4 1 at_.length, .bool f], .cells 29 [.int .i64 t.1, .int .i64 t.2.1, .int .i64 0, .osl 5 8 ins.length, .nilsl, .int .i64 0, .int .i64 0, .nilsl, .nilsl, .int .i64 0, .int .i64 0, .nilsl, .nilsl], .ovec 3 tI at_, .ovec 46 tIns ins])
    (.stop (rg (bodyOf Tryd.f22) 24) (.junk :: .c (.ro tI to) :: .c (.ptr 0 0 0 0) :: .junk :: .c (.ptr 1 0 0 0) :: .junk :: .c (.ptr 2 0 0 0) :: .c (.ptr 3 0 0 0) :: J16 (bCm7 t i)) [.cells 29 (Ty.enc tTrace t), bCm8, .cells 97 [.osl 4 1 at_.length, .bool f], (bCm3 t ins), .ovec 3 tI at_, .ovec 46 tIns ins]))
   (.ite (decide (t.2.2.1 ≤ 0))
    (.stop (rg (bodyOf Tryd.f22) 24) (.junk :: .c (.ro tI to) :: .c (.ptr 0 0 0 0) :: .junk :: .c (.ptr 1 0 0 0) :: .junk :: .c (.ptr 2 0 0 0) :: .c (.ptr 3 0 0 0) :: J16 (bCm7 t i)) [.cells 29 (Ty.enc tTrace t), bCm8, .cells 97 [.osl 4 1 at_.length, .bool f], .cells 29 [.int .i64 t.1, .int .i64 t.2.1, .int .i64 0, .osl 5 8 ins.length, .nilsl, .int .i64 0, .int .i64 0, .nilsl, .nilsl, .int .i64 0, .int .i64 0, .nilsl, .nilsl], .ovec 3 tI at_, .ovec 46 tIns ins])
    (.stop (rg (bodyOf Tryd.f22) 24) (.junk :: .c (.ro tI to) :: .c (.ptr 0 0 0 0) :: .junk :: .c (.ptr 1 0 0 0) :: .junk :: .c (.ptr 2 0 0 0) :: .c (.ptr 3 0 0 0) :: J16 (bCm7 t i)) [.cells 29 (Ty.enc tTrace t), bCm8, .cells 97 [.osl 4 1 at_.length, .bool f], (bCm5 t lo ins), .ovec 3 tI at_, .ovec 46 tIns ins])))
theorem cut_l0_R_ok (t : ETrace) (to : List Int) (i : Nat) (f : Bool) (lo : Int) (at_ : List Int) (ins : List EIns) : aRound Tryd.prog oc23 Tryd.f22 cut_lv 3000 (lp (bodyOf Tryd.f22) 0) (.junk :: .c (.ro tI to) :: .c (.ptr 0 0 0 0) :: .junk :: .c (.ptr 1 0 0 0) :: .junk :: .c (.ptr 2 0 0 0) :: .c (.ptr 3 0 0 0) :: J16 (bCm7 t i)) [.cells 29 (Ty.enc tTrace t), bCm8, .cells 97 [.osl 4 1 at_.length, .bool f], (bCm5 t lo ins), .ovec 3 tI at_, .ovec 46 tIns ins] = cut_l0_R t to i f lo at_ ins := by kernel_rfl
noncomputable def cut_r24_R (t : ETrace) (to : List Int) (f : Bool) (lo : Int) (at_ : List Int) (ins : List EIns) : Tree :=
  .stop (lp (bodyOf Tryd.f22) 1) (J2 (.c (.ptr 0 0 0 0) :: .junk :: .c (.ptr 1 0 0 0) :: .junk :: .c (.ptr 2 0 0 0) :: .c (.ptr 3 0 0 0) :: J32 (J32 (J32 (J16 (J4 (.c (.ro tExit t.2.2.2.2.1) :: .c (.int .i64 (t.2.2.2.2.1.length : Int)) :: .c (.int .i64 0) :: J16 (J8 (J4 (.junk :: [])))))))))) [.cells 29 (Ty.enc tTrace t), bCm8, .cells 97 [.osl 4 1 at_.length, .bool f], (bCm5 t lo ins), .ovec 3 tI at_, .ovec 46 tIns ins]
theorem cut_r24_R_ok (t : ETrace) (to : List Int) (f : Bool) (lo : Int) (at_ : List Int) (ins : List EIns) : aRound Tryd.prog oc23 Tryd.f22 cut_lv 3000 (rg (bodyOf Tryd.f22) 24) (J2 (.c (.ptr 0 0 0 0) :: .junk :: .c (.ptr 1 0 0 0) :: .junk :: .c (.ptr 2 0 0 0) :: .c (.ptr 3 0 0 0) :: J32 (J32 (J32 (J32 (J16 (J4 ([])))))))) [.cells 29 (Ty.enc tTrace t), bCm8, .cells 97 [.osl 4 1 at_.length, .bool f], (bCm5 t lo ins), .ovec 3 tI at_, .ovec 46 tIns ins] = cut_r24_R t to f lo at_ ins := by kernel_rfl
abbrev bCm0 (t : ETrace) (lo : Int) (ins : List EIns) (xs : List EExit) (at_ : List Int) : AB := .cells 29 [.int .i64 t.1, .int .i64 t.2.1, .int .i64 lo, .osl 5 8 ins.length, .osl 6 4 xs.length, .int .i64 (cutExit at_ t.2.2.2.2.2.1).1, .int .i64 (cutExit at_ t.2.2.2.2.2.1).2.1, .ro tVal (cutExit at_ t.2.2.2.2.2.1).2.2.1, .ro tMake (cutExit at_ t.2.2.2.2.2.1).2.2.2, .int .i64 (cutExit at_ t.2.2.2.2.2.2).1, .int .i64 (cutExit at_ t.2.2.2.2.2.2).2.1, .ro tVal (cutExit at_ t.2.2.2.2.2.2).2.2.1, .ro tMake (cutExit at_ t.2.2.2.2.2.2).2.2.2]
abbrev bCm2 (t : ETrace) (k : Nat) : AB := .cells 27 [.int .i64 (t.2.2.2.2.1.getD k tExit.dflt).1, .int .i64 (t.2.2.2.2.1.getD k tExit.dflt).2.1, .ro tVal (t.2.2.2.2.1.getD k tExit.dflt).2.2.1, .ro tMake (t.2.2.2.2.1.getD k tExit.dflt).2.2.2]
abbrev bCm4 (t : ETrace) (lo : Int) (ins : List EIns) (xs : List EExit) : AB := .cells 29 [.int .i64 t.1, .int .i64 t.2.1, .int .i64 lo, .osl 5 8 ins.length, .osl 6 4 xs.length, .int .i64 0, .int .i64 0, .nilsl, .nilsl, .int .i64 0, .int .i64 0, .nilsl, .nilsl]
noncomputable def cut_l1_R (t : ETrace) (to : List Int) (k : Nat) (f : Bool) (lo : Int) (at_ : List Int) (ins : List EIns) (xs : List EExit) : Tree :=
  .ite (decide (((k : Nat) : Int) < (t.2.2.2.2.1.length : Int)))
  (.need ((0 : Int) ≤ ((k : Nat) : Int) ∧ (((k : Nat) : Int) : Int) < (t.2.2.2.2.1.length : Int)) <|
   .need (k < t.2.2.2.2.1.length) <|
   .callH 49 [.c (.ptr 2 0 0 0), .agg [.int .i64 (t.2.2.2.2.1.getD k tExit.dflt).1, .int .i64 (t.2.2.2.2.1.getD k tExit.dflt).2.1, .ro tVal (t.2.2.2.2.1.getD k tExit.dflt).2.2.1, .ro tMake (t.2.2.2.2.1.getD k tExit.dflt).2.2.2]] [.cells 29 (Ty.enc tTrace t), bCm8, .cells 97 [.osl 4 1 at_.length, .bool f], (bCm4 t lo ins xs), .ovec 3 tI at_, .ovec 46 tIns ins, .ovec 27 tExit xs, (bCm2 t k)] (.agg [.int .i64 (cutExit at_ (t.2.2.2.2.1.getD k tExit.dflt)).1, .int .i64 (cutExit at_ (t.2.2.2.2.1.getD k tExit.dflt)).2.1, .ro tVal (cutExit at_ (t.2.2.2.2.1.getD k tExit.dflt)).2.2.1, .ro tMake (cutExit at_ (t.2.2.2.2.1.getD k tExit.dflt)).2.2.2]) [.cells 29 (Ty.enc tTrace t), bCm8, .cells 97 [.osl 4 1 at_.length, .bool (f && cutExitOk at_ (t.2.2.2.2.1.getD k tExit.dflt))], (bCm4 t lo ins xs), .ovec 3 tI at_, .ovec 46 tIns ins, .ovec 27 tExit xs, (bCm2 t k)] [2, 4] <|
   .need (xs.length = xs.length) <|
   .need (0 = 0 ∧ 1 = ([(cutExit at_ (t.2.2.2.2.1.getD k tExit.dflt))]).length) <|
   .need ((xs.length + ([(cutExit at_ (t.2.2.2.2.1.getD k tExit.dflt))]).length) * 64 ≤ 140737488355328) <|
   .need (inR .i64 (((k : Nat) : Int) + 1)) <|
   .stop (lp (bodyOf Tryd.f22) 1) (J2 (.c (.ptr 0 0 0 0) :: .junk :: .c (.ptr 1 0 0 0) :: .junk :: .c (.ptr 2 0 0 0) :: .c (.ptr 3 0 0 0) :: J32 (J32 (J32 (J16 (J4 (.c (.ro tExit t.2.2.2.2.1) :: .c (.int .i64 (t.2.2.2.2.1.length : Int)) :: .c (.int .i64 (((k : Nat) : Int) + 1)) :: J16 (J8 (J4 (.junk :: [])))))))))) [.cells 29 (Ty.enc tTrace t), bCm8, .cells 97 [.osl 4 1 at_.length, .bool (f && cutExitOk at_ (t.2.2.2.2.1.getD k tExit.dflt))], .cells 29 [.int .i64 t.1, .int .i64 t.2.1, .int .i64 lo, .osl 5 8 ins.length, .osl 9 4 (xs ++ [(cutExit at_ (t.2.2.2.2.1.getD k tExit.dflt))]).length, .int .i64 0, .int .i64 0, .nilsl, .nilsl, .int .i64 0, .int .i64 0, .nilsl, .nilsl], .ovec 3 tI at_, .ovec 46 tIns ins, .dead, (bCm2 t k), .vec 27 tExit ([(cutExit at_ (t.2.2.2.2.1.getD k tExit.dflt))]), .ovec 27 tExit (xs ++ [(cutExit at_ (t.2.2.2.2.1.getD k tExit.dflt))])])
  (.callH 49 [.c (.ptr 2 0 0 0), .agg [.int .i64 t.2.2.2.2.2.1.1, .int .i64 t.2.2.2.2.2.1.2.1, .ro tVal t.2.2.2.2.2.1.2.2.1, .ro tMake t.2.2.2.2.2.1.2.2.2]] [.cells 29 (Ty.enc tTrace t), bCm8, .cells 97 [.osl 4 1 at_.length, .bool f], (bCm4 t lo ins xs), .ovec 3 tI at_, .ovec 46 tIns ins, .ovec 27 tExit xs] (.agg [.int .i64 (cutExit at_ t.2.2.2.2.2.1).1, .int .i64 (cutExit at_ t.2.2.2.2.2.1).2.1, .ro tVal (cutExit at_ t.2.2.2.2.2.1).2.2.1, .ro tMake (cutExit at_ t.2.2.2.2.2.1).2.2.2]) [.cells 29 (Ty.enc tTrace t), bCm8, .cells 97 [.osl 4 1 at_.length, .bool (f && cutExitOk at_ t.2.2.2.2.2.1)], (bCm4 t lo ins xs), .ovec 3 tI at_, .ovec 46 tIns ins, .ovec 27 tExit xs] [2, 4] <|
   .callH 49 [.c (.ptr 2 0 0 0), .agg [.int .i64 t.2.2.2.2.2.2.1, .int .i64 t.2.2.2.2.2.2.2.1, .ro tVal t.2.2.2.2.2.2.2.2.1, .ro tMake t.2.2.2.2.2.2.2.2.2]] [.cells 29 (Ty.enc tTrace t), bCm8, .cells 97 [.osl 4 1 at_.length, .bool (f && cutExitOk at_ t.2.2.2.2.2.1)], (bCm4 t lo ins xs), .ovec 3 tI at_, .ovec 46 tIns ins, .ovec 27 tExit xs] (.agg [.int .i64 (cutExit at_ t.2.2.2.2.2.2).1, .int .i64 (cutExit at_ t.2.2.2.2.2.2).2.1, .ro tVal (cutExit at_ t.2.2.2.2.2.2).2.2.1, .ro tMake (cutExit at_ t.2.2.2.2.2.2).2.2.2]) [.cells 29 (Ty.enc tTrace t), bCm8, .cells 97 [.osl 4 1 at_.length, .bool ((f && cutExitOk at_ t.2.2.2.2.2.1) && cutExitOk at_ t.2.2.2.2.2.2)], (bCm4 t lo ins xs), .ovec 3 tI at_, .ovec 46 tIns ins, .ovec 27 tExit xs] [2, 4] <|
   .ite ((!((f && cutExitOk at_ t.2.2.2.2.2.1) && cutExitOk at_ t.2.2.2.2.2.2)))
   (.ret (.tup [.agg bCm9, .c (.int .i64 3)]) [.cells 29 (Ty.enc tTrace t), bCm8, .cells 97 [.osl 4 1 at_.length, .bool ((f && cutExitOk at_ t.2.2.2.2.2.1) && cutExitOk at_ t.2.2.2.2.2.2)], (bCm0 t lo ins xs at_), .ovec 3 tI at_, .ovec 46 tIns ins, .ovec 27 tExit xs])
   (.ret (.tup [.agg [.int .i64 t.1, .int .i64 t.2.1, .int .i64 lo, .osl 5 8 ins.length, .osl 6 4 xs.length, .int .i64 (cutExit at_ t.2.2.2.2.2.1).1, .int .i64 (cutExit at_ t.2.2.2.2.2.1).2.1, .ro tVal (cutExit at_ t.2.2.2.2.2.1).2.2.1, .ro tMake (cutExit at_ t.2.2.2.2.2.1).2.2.2, .int .i64 (cutExit at_ t.2.2.2.2.2.2).1, .int .i64 (cutExit at_ t.2.2.2.2.2.2).2.1, .ro tVal (cutExit at_ t.2.2.2.2.2.2).2.2.1, .ro tMake (cutExit at_ t.2.2.2.2.2.2).2.2.2], .c (.int .i64 0)]) [.cells 29 (Ty.enc tTrace t), (bCm0 t lo ins xs at_), .cells 97 [.osl 4 1 at_.length, .bool ((f && cutExitOk at_ t.2.2.2.2.2.1) && cutExitOk at_ t.2.2.2.2.2.2)], (bCm0 t lo ins xs at_), .ovec 3 tI at_, .ovec 46 tIns ins, .ovec 27 tExit xs]))
theorem cut_l1_R_ok (t : ETrace) (to : List Int) (k : Nat) (f : Bool) (lo : Int) (at_ : List Int) (ins : List EIns) (xs : List EExit) : aRound Tryd.prog oc23 Tryd.f22 cut_lv 3000 (lp (bodyOf Tryd.f22) 1) (J2 (.c (.ptr 0 0 0 0) :: .junk :: .c (.ptr 1 0 0 0) :: .junk :: .c (.ptr 2 0 0 0) :: .c (.ptr 3 0 0 0) :: J32 (J32 (J32 (J16 (J4 (.c (.ro tExit t.2.2.2.2.1) :: .c (.int .i64 (t.2.2.2.2.1.length : Int)) :: .c (.int .i64 ((k : Nat) : Int)) :: J16 (J8 (J4 (.junk :: [])))))))))) [.cells 29 (Ty.enc tTrace t), bCm8, .cells 97 [.osl 4 1 at_.length, .bool f], (bCm4 t lo ins xs), .ovec 3 tI at_, .ovec 46 tIns ins, .ovec 27 tExit xs] = cut_l1_R t to k f lo at_ ins xs := by kernel_rfl
theorem cut_l1 (t : ETrace) (to : List Int) (k : Nat) (f : Bool) (lo : Int) (at_ : List Int) (ins : List EIns) (xs : List EExit) (hs : traceSm t) (hx : xs.length ≤ k) : Run Tryd.prog 22 (retQ Tryd.prog (.tup [.agg (Ty.enc tTrace ((endF t at_ f lo ins xs k).1)), .c (.int .i64 ((endF t at_ f lo ins xs k).2))])) (lp (bodyOf Tryd.f22) 1) (J2 (.c (.ptr 0 0 0 0) :: .junk :: .c (.ptr 1 0 0 0) :: .junk :: .c (.ptr 2 0 0 0) :: .c (.ptr 3 0 0 0) :: J32 (J32 (J32 (J16 (J4 (.c (.ro tExit t.2.2.2.2.1) :: .c (.int .i64 (t.2.2.2.2.1.length : Int)) :: .c (.int .i64 ((k : Nat) : Int)) :: J16 (J8 (J4 (.junk :: [])))))))))) [.cells 29 (Ty.enc tTrace t), bCm8, .cells 97 [.osl 4 1 at_.length, .bool f], (bCm4 t lo ins xs), .ovec 3 tI at_, .ovec 46 tIns ins, .ovec 27 tExit xs] :=
  Run.roundA oc23 cut_lv 3000 Tryd.func22 mixed (cut_l1_R t to k f lo at_ ins xs) (cut_l1_R_ok t to k f lo at_ ins xs) (by
    unfold cut_l1_R
    refine g_iteD (fun h0 => ?_) (fun h0 => ?_)
    · refine g_need (by omega) ?_
      refine g_need (by omega) ?_
      refine g_callH (AFunH.frameB [2, 4] (cexit_fun at_ f (t.2.2.2.2.1.getD k tExit.dflt) (by first | exact hs.2.2.1 | exact hs.2.2.2 | exact hs.2.1.2 _ (getD_mem (α := EExit) (Ty.dflt tExit) (by omega)))) rfl rfl rfl rfl rfl rfl rfl) ?_
      refine g_need (rfl) ?_
      refine g_need (⟨rfl, rfl⟩) ?_
      refine g_need (by first | omega | (constructor <;> omega) | (rw [i64_iff]; omega) | rfl | (have q1 := hs.1; have q2 := hs.2.1.1; (try simp only [List.length_cons, List.length_nil]); first | omega | (rw [i64_iff]; omega) | (constructor <;> omega))) ?_
      refine g_need (by first | omega | (constructor <;> omega) | (rw [i64_iff]; omega) | rfl | (have q1 := hs.1; have q2 := hs.2.1.1; (try simp only [List.length_cons, List.length_nil]); first | omega | (rw [i64_iff]; omega) | (constructor <;> omega))) ?_
      refine g_stop (RunN.keep [0, 1, 2, 3, 4, 5, 9] (F2 (true :: false :: true :: false :: true :: true :: F32 (F32 (F32 (F16 (F4 (true :: true :: true :: F16 (F8 (F4 (false :: [])))))))))) n0 (by decide) rfl rfl ?_)
      have ht := cut_l1 t to (k + 1) (f && cutExitOk at_ (t.2.2.2.2.1.getD k tExit.dflt)) lo at_ ins (xs ++ [(cutExit at_ (t.2.2.2.2.1.getD k tExit.dflt))]) hs (by simp; omega); rw [endF_step (by omega)]; exact ht
    · refine g_callH (AFunH.frameB [2, 4] (cexit_fun at_ f t.2.2.2.2.2.1 (by first | exact hs.2.2.1 | exact hs.2.2.2 | exact hs.2.1.2 _ (getD_mem (α := EExit) (Ty.dflt tExit) (by omega)))) rfl rfl rfl rfl rfl rfl rfl) ?_
      refine g_callH (AFunH.frameB [2, 4] (cexit_fun at_ (f && cutExitOk at_ t.2.2.2.2.2.1) t.2.2.2.2.2.2 (by first | exact hs.2.2.1 | exact hs.2.2.2 | exact hs.2.1.2 _ (getD_mem (α := EExit) (Ty.dflt tExit) (by omega)))) rfl rfl rfl rfl rfl rfl rfl) ?_
      refine g_iteN (fun h1 => ?_) (fun h1 => ?_)
      · first | rw [endF_t (by omega) (by assumption)] | rw [endF_f (by omega) (by assumption)]
        refine g_rq ?_
        exact g_rl (⟨⟨⟨rfl, rfl⟩, ⟨rfl, rfl⟩, ⟨rfl, rfl⟩, rfl, rfl, ⟨rfl, rfl⟩, ⟨rfl, rfl⟩, rfl, rfl, ⟨rfl, rfl⟩, ⟨rfl, rfl⟩, rfl, rfl, trivial⟩, ⟨rfl, rfl⟩, trivial⟩) rfl
      · first | rw [endF_t (by omega) (by assumption)] | rw [endF_f (by omega) (by assumption)]
        refine g_rq ?_
        refine g_need (rfl) ?_
        refine g_need (rfl) ?_
        exact g_rl (⟨⟨⟨rfl, rfl⟩, ⟨rfl, rfl⟩, ⟨rfl, rfl⟩, ⟨rfl, rfl⟩, ⟨rfl, rfl⟩, ⟨rfl, rfl⟩, ⟨rfl, rfl⟩, ⟨rfl, rfl⟩, ⟨rfl, rfl⟩, ⟨rfl, rfl⟩, ⟨rfl, rfl⟩, ⟨rfl, rfl⟩, ⟨rfl, rfl⟩, trivial⟩, ⟨rfl, rfl⟩, trivial⟩) rfl
    )
  termination_by t.2.2.2.2.1.length - k
  decreasing_by all_goals omega
theorem cut_r24 (t : ETrace) (to : List Int) (f : Bool) (lo : Int) (at_ : List Int) (ins : List EIns) (hs : traceSm t) : Run Tryd.prog 22 (retQ Tryd.prog (.tup [.agg (Ty.enc tTrace ((cutEnd t at_ f lo ins).1)), .c (.int .i64 ((cutEnd t at_ f lo ins).2))])) (rg (bodyOf Tryd.f22) 24) (J2 (.c (.ptr 0 0 0 0) :: .junk :: .c (.ptr 1 0 0 0) :: .junk :: .c (.ptr 2 0 0 0) :: .c (.ptr 3 0 0 0) :: J32 (J32 (J32 (J32 (J16 (J4 ([])))))))) [.cells 29 (Ty.enc tTrace t), bCm8, .cells 97 [.osl 4 1 at_.length, .bool f], (bCm5 t lo ins), .ovec 3 tI at_, .ovec 46 tIns ins] :=
  Run.roundA oc23 cut_lv 3000 Tryd.func22 mixed (cut_r24_R t to f lo at_ ins) (cut_r24_R_ok t to f lo at_ ins) (by
    unfold cut_r24_R
    refine g_stop (RunN.keep [0, 1, 2, 3, 4, 5, 1006] (F2 (true :: false :: true :: false :: true :: true :: F32 (F32 (F32 (F16 (F4 (true :: true :: true :: F16 (F8 (F4 (false :: [])))))))))) n0 (by decide) rfl rfl ?_)
    refine RunN.less (env' := (J2 (.c (.ptr 0 0 0 0) :: .junk :: .c (.ptr 1 0 0 0) :: .junk :: .c (.ptr 2 0 0 0) :: .c (.ptr 3 0 0 0) :: J32 (J32 (J32 (J16 (J4 (.c (.ro tExit t.2.2.2.2.1) :: .c (.int .i64 (t.2.2.2.2.1.length : Int)) :: .c (.int .i64 ((0 : Nat) : Int)) :: J16 (J8 (J4 (.junk :: []))))))))))) (H' := [.cells 29 (Ty.enc tTrace t), bCm8, .cells 97 [.osl 4 1 at_.length, .bool f], .cells 29 [.int .i64 t.1, .int .i64 t.2.1, .int .i64 lo, .osl 5 8 ins.length, .osl 6 4 0, .int .i64 0, .int .i64 0, .nilsl, .nilsl, .int .i64 0, .int .i64 0, .nilsl, .nilsl], .ovec 3 tI at_, .ovec 46 tIns ins, .ovec 27 tExit ([])]) (leAVs.same rfl) (⟨leB.refl _, leB.refl _, leB.refl _, ⟨rfl, leC.refl _, leC.refl _, leC.refl _, leC.refl _, rfl, leC.refl _, leC.refl _, leC.refl _, leC.refl _, leC.refl _, leC.refl _, leC.refl _, leC.refl _, trivial⟩, leB.refl _, leB.refl _, rfl, trivial⟩) ?_
    exact cut_l1 t to 0 f lo at_ ins ([]) hs (by simp)
    )
theorem cut_l0 (t : ETrace) (to : List Int) (i : Nat) (f : Bool) (lo : Int) (at_ : List Int) (ins : List EIns) (hs : traceSm t) (hl : to.length = t.2.2.2.1.length) (ha : at_.length = i) (hi : ins.length ≤ i) : Run Tryd.prog 22 (retQ Tryd.prog (.tup [.agg (Ty.enc tTrace ((cutThen t (cutLoop t.2.2.1 i (t.2.2.2.1.drop i) (to.drop i) at_ f lo ins)).1)), .c (.int .i64 ((cutThen t (cutLoop t.2.2.1 i (t.2.2.2.1.drop i) (to.drop i) at_ f lo ins)).2))])) (lp (bodyOf Tryd.f22) 0) (.junk :: .c (.ro tI to) :: .c (.ptr 0 0 0 0) :: .junk :: .c (.ptr 1 0 0 0) :: .junk :: .c (.ptr 2 0 0 0) :: .c (.ptr 3 0 0 0) :: J16 (bCm7 t i)) [.cells 29 (Ty.enc tTrace t), bCm8, .cells 97 [.osl 4 1 at_.length, .bool f], (bCm5 t lo ins), .ovec 3 tI at_, .ovec 46 tIns ins] :=
  Run.roundA oc23 cut_lv 3000 Tryd.func22 mixed (cut_l0_R t to i f lo at_ ins) (cut_l0_R_ok t to i f lo at_ ins) (by
    unfold cut_l0_R
    refine g_iteD (fun h0 => ?_) (fun h0 => ?_)
    · refine g_need (by omega) ?_
      refine g_need (by omega) ?_
      refine g_iteD (fun h1 => ?_) (fun h1 => ?_)
      · refine g_need (by omega) ?_
        refine g_need (by omega) ?_
        refine g_iteD (fun h2 => ?_) (fun h2 => ?_)
        · refine g_need (rfl) ?_
          refine g_need (⟨rfl, rfl⟩) ?_
          refine g_need (by first | omega | (constructor <;> omega) | (rw [i64_iff]; omega) | rfl | (have q1 := hs.1; have q2 := hs.2.1.1; (try simp only [List.length_cons, List.length_nil]); first | omega | (rw [i64_iff]; omega) | (constructor <;> omega))) ?_
          refine g_callH (AFunH.frameB [2, 8] (cins_fun (at_ ++ [((ins.length : Nat) : Int)]) f (t.2.2.2.1.getD i tIns.dflt)) rfl rfl rfl rfl rfl rfl rfl) ?_
          refine g_need (rfl) ?_
          refine g_need (⟨rfl, rfl⟩) ?_
          refine g_need (by first | omega | (constructor <;> omega) | (rw [i64_iff]; omega) | rfl | (have q1 := hs.1; have q2 := hs.2.1.1; (try simp only [List.length_cons, List.length_nil]); first | omega | (rw [i64_iff]; omega) | (constructor <;> omega))) ?_
          refine g_need (by first | omega | (constructor <;> omega) | (rw [i64_iff]; omega) | rfl | (have q1 := hs.1; have q2 := hs.2.1.1; (try simp only [List.length_cons, List.length_nil]); first | omega | (rw [i64_iff]; omega) | (constructor <;> omega))) ?_
          refine g_stop (RunN.keep [0, 1, 2, 3, 8, 10] (false :: true :: true :: false :: true :: false :: true :: true :: F16 (F4 (true :: true :: true :: F32 (F32 (F32 (F16 (F8 (F4 (false :: []))))))))) n0 (by decide) rfl rfl ?_)
          have ht := cut_l0 t to (i + 1) (f && cutInsOk (at_ ++ [((ins.length : Nat) : Int)]) (t.2.2.2.1.getD i tIns.dflt)) ((ins.length : Nat) : Int) (at_ ++ [((ins.length : Nat) : Int)]) (ins ++ [(cutIns (at_ ++ [((ins.length : Nat) : Int)]) (t.2.2.2.1.getD i tIns.dflt))]) hs hl (by simp; omega) (by first | omega | (simp; omega)); rw [dropCons (α := EIns) (Ty.dflt tIns) (by omega : i < t.2.2.2.1.length), dropCons (α := Int) (Ty.dflt tI) (by omega : i < to.length), cutLoop]; (first | rw [if_pos h2] | rw [if_neg h2, if_pos h3] | rw [if_neg h2, if_neg h3, if_pos h4, if_pos h5]); (first | rw [if_pos h1] | rw [if_neg h1]); exact ht
        · refine g_iteD (fun h3 => ?_) (fun h3 => ?_)
          · refine g_need (rfl) ?_
            refine g_need (⟨rfl, rfl⟩) ?_
            refine g_need (by first | omega | (constructor <;> omega) | (rw [i64_iff]; omega) | rfl | (have q1 := hs.1; have q2 := hs.2.1.1; (try simp only [List.length_cons, List.length_nil]); first | omega | (rw [i64_iff]; omega) | (constructor <;> omega))) ?_
            refine g_need (by first | omega | (constructor <;> omega) | (rw [i64_iff]; omega) | rfl | (have q1 := hs.1; have q2 := hs.2.1.1; (try simp only [List.length_cons, List.length_nil]); first | omega | (rw [i64_iff]; omega) | (constructor <;> omega))) ?_
            refine g_stop (RunN.keep [0, 1, 2, 3, 8, 5] (false :: true :: true :: false :: true :: false :: true :: true :: F16 (F4 (true :: true :: true :: F32 (F32 (F32 (F16 (F8 (F4 (false :: []))))))))) n0 (by decide) rfl rfl ?_)
            have ht := cut_l0 t to (i + 1) f ((ins.length : Nat) : Int) (at_ ++ [(-1)]) ins hs hl (by simp; omega) (by first | omega | (simp; omega)); rw [dropCons (α := EIns) (Ty.dflt tIns) (by omega : i < t.2.2.2.1.length), dropCons (α := Int) (Ty.dflt tI) (by omega : i < to.length), cutLoop]; (first | rw [if_pos h2] | rw [if_neg h2, if_pos h3] | rw [if_neg h2, if_neg h3, if_pos h4, if_pos h5]); (first | rw [if_pos h1] | rw [if_neg h1]); exact ht
          · refine g_iteD (fun h4 => ?_) (fun h4 => ?_)
            · refine g_iteD (fun h5 => ?_) (fun h5 => ?_)
              · refine g_need (by omega) ?_
                refine g_need (by omega) ?_
                refine g_need (rfl) ?_
                refine g_need (⟨rfl, rfl⟩) ?_
                refine g_need (by first | omega | (constructor <;> omega) | (rw [i64_iff]; omega) | rfl | (have q1 := hs.1; have q2 := hs.2.1.1; (try simp only [List.length_cons, List.length_nil]); first | omega | (rw [i64_iff]; omega) | (constructor <;> omega))) ?_
                refine g_need (by first | omega | (constructor <;> omega) | (rw [i64_iff]; omega) | rfl | (have q1 := hs.1; have q2 := hs.2.1.1; (try simp only [List.length_cons, List.length_nil]); first | omega | (rw [i64_iff]; omega) | (constructor <;> omega))) ?_
                refine g_stop (RunN.keep [0, 1, 2, 3, 8, 5] (false :: true :: true :: false :: true :: false :: true :: true :: F16 (F4 (true :: true :: true :: F32 (F32 (F32 (F16 (F8 (F4 (false :: []))))))))) n0 (by decide) rfl rfl ?_)
                have ht := cut_l0 t to (i + 1) f ((ins.length : Nat) : Int) (at_ ++ [(at_.getD (Int.toNat (to.getD i tI.dflt)) tI.dflt)]) ins hs hl (by simp; omega) (by first | omega | (simp; omega)); rw [dropCons (α := EIns) (Ty.dflt tIns) (by omega : i < t.2.2.2.1.length), dropCons (α := Int) (Ty.dflt tI) (by omega : i < to.length), cutLoop]; (first | rw [if_pos h2] | rw [if_neg h2, if_pos h3] | rw [if_neg h2, if_neg h3, if_pos h4, if_pos h5]); (first | rw [if_pos h1] | rw [if_neg h1]); exact ht
              · rw [dropCons (α := EIns) (Ty.dflt tIns) (by omega : i < t.2.2.2.1.length), dropCons (α := Int) (Ty.dflt tI) (by omega : i < to.length), cutLoop]; first | rw [if_neg h2, if_neg h3, if_neg h4] | rw [if_neg h2, if_neg h3, if_pos h4, if_neg h5]
                refine g_rq ?_
                exact g_rl (⟨⟨⟨rfl, rfl⟩, ⟨rfl, rfl⟩, ⟨rfl, rfl⟩, rfl, rfl, ⟨rfl, rfl⟩, ⟨rfl, rfl⟩, rfl, rfl, ⟨rfl, rfl⟩, ⟨rfl, rfl⟩, rfl, rfl, trivial⟩, ⟨rfl, rfl⟩, trivial⟩) rfl
            · rw [dropCons (α := EIns) (Ty.dflt tIns) (by omega : i < t.2.2.2.1.length), dropCons (α := Int) (Ty.dflt tI) (by omega : i < to.length), cutLoop]; first | rw [if_neg h2, if_neg h3, if_neg h4] | rw [if_neg h2, if_neg h3, if_pos h4, if_neg h5]
              refine g_rq ?_
              exact g_rl (⟨⟨⟨rfl, rfl⟩, ⟨rfl, rfl⟩, ⟨rfl, rfl⟩, rfl, rfl, ⟨rfl, rfl⟩, ⟨rfl, rfl⟩, rfl, rfl, ⟨rfl, rfl⟩, ⟨rfl, rfl⟩, rfl, rfl, trivial⟩, ⟨rfl, rfl⟩, trivial⟩) rfl
      · refine g_need (by omega) ?_
        refine g_need (by omega) ?_
        refine g_iteD (fun h2 => ?_) (fun h2 => ?_)
        · refine g_need (rfl) ?_
          refine g_need (⟨rfl, rfl⟩) ?_
          refine g_need (by first | omega | (constructor <;> omega) | (rw [i64_iff]; omega) | rfl | (have q1 := hs.1; have q2 := hs.2.1.1; (try simp only [List.length_cons, List.length_nil]); first | omega | (rw [i64_iff]; omega) | (constructor <;> omega))) ?_
          refine g_callH (AFunH.frameB [2, 8] (cins_fun (at_ ++ [((ins.length : Nat) : Int)]) f (t.2.2.2.1.getD i tIns.dflt)) rfl rfl rfl rfl rfl rfl rfl) ?_
          refine g_need (rfl) ?_
          refine g_need (⟨rfl, rfl⟩) ?_
          refine g_need (by first | omega | (constructor <;> omega) | (rw [i64_iff]; omega) | rfl | (have q1 := hs.1; have q2 := hs.2.1.1; (try simp only [List.length_cons, List.length_nil]); first | omega | (rw [i64_iff]; omega) | (constructor <;> omega))) ?_
          refine g_need (by first | omega | (constructor <;> omega) | (rw [i64_iff]; omega) | rfl | (have q1 := hs.1; have q2 := hs.2.1.1; (try simp only [List.length_cons, List.length_nil]); first | omega | (rw [i64_iff]; omega) | (constructor <;> omega))) ?_
          refine g_stop (RunN.keep [0, 1, 2, 3, 8, 10] (false :: true :: true :: false :: true :: false :: true :: true :: F16 (F4 (true :: true :: true :: F32 (F32 (F32 (F16 (F8 (F4 (false :: []))))))))) n0 (by decide) rfl rfl ?_)
          have ht := cut_l0 t to (i + 1) (f && cutInsOk (at_ ++ [((ins.length : Nat) : Int)]) (t.2.2.2.1.getD i tIns.dflt)) lo (at_ ++ [((ins.length : Nat) : Int)]) (ins ++ [(cutIns (at_ ++ [((ins.length : Nat) : Int)]) (t.2.2.2.1.getD i tIns.dflt))]) hs hl (by simp; omega) (by first | omega | (simp; omega)); rw [dropCons (α := EIns) (Ty.dflt tIns) (by omega : i < t.2.2.2.1.length), dropCons (α := Int) (Ty.dflt tI) (by omega : i < to.length), cutLoop]; (first | rw [if_pos h2] | rw [if_neg h2, if_pos h3] | rw [if_neg h2, if_neg h3, if_pos h4, if_pos h5]); (first | rw [if_pos h1] | rw [if_neg h1]); exact ht
        · refine g_iteD (fun h3 => ?_) (fun h3 => ?_)
          · refine g_need (rfl) ?_
            refine g_need (⟨rfl, rfl⟩) ?_
            refine g_need (by first | omega | (constructor <;> omega) | (rw [i64_iff]; omega) | rfl | (have q1 := hs.1; have q2 := hs.2.1.1; (try simp only [List.length_cons, List.length_nil]); first | omega | (rw [i64_iff]; omega) | (constructor <;> omega))) ?_
            refine g_need (by first | omega | (constructor <;> omega) | (rw [i64_iff]; omega) | rfl | (have q1 := hs.1; have q2 := hs.2.1.1; (try simp only [List.length_cons, List.length_nil]); first | omega | (rw [i64_iff]; omega) | (constructor <;> omega))) ?_
            refine g_stop (RunN.keep [0, 1, 2, 3, 8, 5] (false :: true :: true :: false :: true :: false :: true :: true :: F16 (F4 (true :: true :: true :: F32 (F32 (F32 (F16 (F8 (F4 (false :: []))))))))) n0 (by decide) rfl rfl ?_)
            have ht := cut_l0 t to (i + 1) f lo (at_ ++ [(-1)]) ins hs hl (by simp; omega) (by first | omega | (simp; omega)); rw [dropCons (α := EIns) (Ty.dflt tIns) (by omega : i < t.2.2.2.1.length), dropCons (α := Int) (Ty.dflt tI) (by omega : i < to.length), cutLoop]; (first | rw [if_pos h2] | rw [if_neg h2, if_pos h3] | rw [if_neg h2, if_neg h3, if_pos h4, if_pos h5]); (first | rw [if_pos h1] | rw [if_neg h1]); exact ht
          · refine g_iteD (fun h4 => ?_) (fun h4 => ?_)
            · refine g_iteD (fun h5 => ?_) (fun h5 => ?_)
              · refine g_need (by omega) ?_
                refine g_need (by omega) ?_
                refine g_need (rfl) ?_
                refine g_need (⟨rfl, rfl⟩) ?_
                refine g_need (by first | omega | (constructor <;> omega) | (rw [i64_iff]; omega) | rfl | (have q1 := hs.1; have q2 := hs.2.1.1; (try simp only [List.length_cons, List.length_nil]); first | omega | (rw [i64_iff]; omega) | (constructor <;> omega))) ?_
                refine g_need (by first | omega | (constructor <;> omega) | (rw [i64_iff]; omega) | rfl | (have q1 := hs.1; have q2 := hs.2.1.1; (try simp only [List.length_cons, List.length_nil]); first | omega | (rw [i64_iff]; omega) | (constructor <;> omega))) ?_
                refine g_stop (RunN.keep [0, 1, 2, 3, 8, 5] (false :: true :: true :: false :: true :: false :: true :: true :: F16 (F4 (true :: true :: true :: F32 (F32 (F32 (F16 (F8 (F4 (false :: []))))))))) n0 (by decide) rfl rfl ?_)
                have ht := cut_l0 t to (i + 1) f lo (at_ ++ [(at_.getD (Int.toNat (to.getD i tI.dflt)) tI.dflt)]) ins hs hl (by simp; omega) (by first | omega | (simp; omega)); rw [dropCons (α := EIns) (Ty.dflt tIns) (by omega : i < t.2.2.2.1.length), dropCons (α := Int) (Ty.dflt tI) (by omega : i < to.length), cutLoop]; (first | rw [if_pos h2] | rw [if_neg h2, if_pos h3] | rw [if_neg h2, if_neg h3, if_pos h4, if_pos h5]); (first | rw [if_pos h1] | rw [if_neg h1]); exact ht
              · rw [dropCons (α := EIns) (Ty.dflt tIns) (by omega : i < t.2.2.2.1.length), dropCons (α := Int) (Ty.dflt tI) (by omega : i < to.length), cutLoop]; first | rw [if_neg h2, if_neg h3, if_neg h4] | rw [if_neg h2, if_neg h3, if_pos h4, if_neg h5]
                refine g_rq ?_
                exact g_rl (⟨⟨⟨rfl, rfl⟩, ⟨rfl, rfl⟩, ⟨rfl, rfl⟩, rfl, rfl, ⟨rfl, rfl⟩, ⟨rfl, rfl⟩, rfl, rfl, ⟨rfl, rfl⟩, ⟨rfl, rfl⟩, rfl, rfl, trivial⟩, ⟨rfl, rfl⟩, trivial⟩) rfl
            · rw [dropCons (α := EIns) (Ty.dflt tIns) (by omega : i < t.2.2.2.1.length), dropCons (α := Int) (Ty.dflt tI) (by omega : i < to.length), cutLoop]; first | rw [if_neg h2, if_neg h3, if_neg h4] | rw [if_neg h2, if_neg h3, if_pos h4, if_neg h5]
              refine g_rq ?_
              exact g_rl (⟨⟨⟨rfl, rfl⟩, ⟨rfl, rfl⟩, ⟨rfl, rfl⟩, rfl, rfl, ⟨rfl, rfl⟩, ⟨rfl, rfl⟩, rfl, rfl, ⟨rfl, rfl⟩, ⟨rfl, rfl⟩, rfl, rfl, trivial⟩, ⟨rfl, rfl⟩, trivial⟩) rfl
    · refine g_iteD (fun h1 => ?_) (fun h1 => ?_)
      · refine g_iteD (fun h2 => ?_) (fun h2 => ?_)
        · refine g_stop (RunN.keep [0, 1, 2, 3, 4, 5] (F2 (true :: false :: true :: false :: true :: true :: F32 (F32 (F32 (F32 (F16 (F4 ([])))))))) n0 (by decide) rfl rfl ?_)
          have ht := cut_r24 t to f 0 at_ ins hs; have e : loopAt t lo ins.length = 0 := (by simp only [loopAt, h0, h1, h2, if_true, if_false]); rw [List.drop_eq_nil_of_le (by omega : t.2.2.2.1.length ≤ i)]; simp only [cutLoop, cutThen, e]; exact ht
        · refine g_stop (RunN.keep [0, 1, 2, 3, 4, 5] (F2 (true :: false :: true :: false :: true :: true :: F32 (F32 (F32 (F32 (F16 (F4 ([])))))))) n0 (by decide) rfl rfl ?_)
          have ht := cut_r24 t to f ((ins.length : Nat) : Int) at_ ins hs; have e : loopAt t lo ins.length = ((ins.length : Nat) : Int) := (by simp only [loopAt, h0, h1, h2, if_true, if_false]); rw [List.drop_eq_nil_of_le (by omega : t.2.2.2.1.length ≤ i)]; simp only [cutLoop, cutThen, e]; exact ht
      · refine g_iteD (fun h2 => ?_) (fun h2 => ?_)
        · refine g_stop (RunN.keep [0, 1, 2, 3, 4, 5] (F2 (true :: false :: true :: false :: true :: true :: F32 (F32 (F32 (F32 (F16 (F4 ([])))))))) n0 (by decide) rfl rfl ?_)
          have ht := cut_r24 t to f 0 at_ ins hs; have e : loopAt t lo ins.length = 0 := (by simp only [loopAt, h0, h1, h2, if_true, if_false]); rw [List.drop_eq_nil_of_le (by omega : t.2.2.2.1.length ≤ i)]; simp only [cutLoop, cutThen, e]; exact ht
        · refine g_stop (RunN.keep [0, 1, 2, 3, 4, 5] (F2 (true :: false :: true :: false :: true :: true :: F32 (F32 (F32 (F32 (F16 (F4 ([])))))))) n0 (by decide) rfl rfl ?_)
          have ht := cut_r24 t to f lo at_ ins hs; have e : loopAt t lo ins.length = lo := (by simp only [loopAt, h0, h1, h2, if_true, if_false]); rw [List.drop_eq_nil_of_le (by omega : t.2.2.2.1.length ≤ i)]; simp only [cutLoop, cutThen, e]; exact ht
    )
  termination_by t.2.2.2.1.length - i
  decreasing_by all_goals omega
theorem cut_fun (t : ETrace) (to : List Int) (hs : traceSm t) : AFun Tryd.prog 22 [.agg (tTrace.enc t), .c (.ro tI to)] (.tup [.agg (Ty.enc tTrace ((cutF t to).1)), .c (.int .i64 ((cutF t to).2))]) :=
  AFun.of oc23 cut_lv 3000 Tryd.func22 mixed rfl (by decide) (Nat.le_of_ble_eq_true rfl) _ (cut_T_ok t to) fun hF => by
    unfold cut_T
    refine g_iteND (fun h0 => ?_) (fun h0 => ?_)
    · rw [cutF, if_neg (by omega)]
      refine g_rq ?_
      exact g_rl (⟨⟨⟨rfl, rfl⟩, ⟨rfl, rfl⟩, ⟨rfl, rfl⟩, rfl, rfl, ⟨rfl, rfl⟩, ⟨rfl, rfl⟩, rfl, rfl, ⟨rfl, rfl⟩, ⟨rfl, rfl⟩, rfl, rfl, trivial⟩, ⟨rfl, rfl⟩, trivial⟩) rfl
    · refine g_stop (RunN.keep [0, 1, 2, 3, 1004, 1005] (false :: true :: true :: false :: true :: false :: true :: true :: F16 (F4 (true :: true :: true :: F32 (F32 (F32 (F16 (F8 (F4 (false :: []))))))))) n0 (by decide) rfl rfl ?_)
      refine RunN.less (env' := (.junk :: .c (.ro tI to) :: .c (.ptr 0 0 0 0) :: .junk :: .c (.ptr 1 0 0 0) :: .junk :: .c (.ptr 2 0 0 0) :: .c (.ptr 3 0 0 0) :: J16 (J4 (.c (.ro tIns t.2.2.2.1) :: .c (.int .i64 (t.2.2.2.1.length : Int)) :: .c (.int .i64 ((0 : Nat) : Int)) :: J32 (J32 (J32 (J16 (J8 (J4 (.junk :: [])))))))))) (H' := [.cells 29 (Ty.enc tTrace t), bCm8, .cells 97 [.osl 4 1 0, .bool true], .cells 29 [.int .i64 t.1, .int .i64 t.2.1, .int .i64 0, .osl 5 8 0, .nilsl, .int .i64 0, .int .i64 0, .nilsl, .nilsl, .int .i64 0, .int .i64 0, .nilsl, .nilsl], .ovec 3 tI ([]), .ovec 46 tIns ([])]) (leAVs.same rfl) (⟨leB.refl _, leB.refl _, ⟨rfl, rfl, rfl, trivial⟩, ⟨rfl, leC.refl _, leC.refl _, leC.refl _, rfl, leC.refl _, leC.refl _, leC.refl _, leC.refl _, leC.refl _, leC.refl _, leC.refl _, leC.refl _, leC.refl _, trivial⟩, rfl, rfl, trivial⟩) ?_
      have ht := cut_l0 t to 0 true 0 ([]) ([]) hs (by omega) rfl (by simp); rw [cutF, if_pos (by omega)]; exact ht

end Go.Proofs.YtefkifdhjabdiaaDoor
namespace Go.Proofs.YtefkifdhjabdiaaDoor
set_option linter.unusedVariables false
set_option linter.unusedSimpArgs false
theorem right_small {p : EProg} {t : ETrace} (h : CheckOk p t) {x : EExit} {a : Int} (hx : rightXF (chkOf p t) x a = true) : exitSm x := by
  obtain ⟨_, _, h1, h2⟩ := rightXF_iff.1 hx
  have q1 := setsF_len h1
  obtain ⟨q2, q3⟩ := makesF_len h2
  have := h.regs
  have hn : (chkOf p t).2.2.2.2.1.length ≤ 300 := h.n
  exact ⟨by omega, by omega, fun m hm => Nat.le_trans (q3 m hm) (by omega)⟩
theorem CheckOk.small {p : EProg} {t : ETrace} (h : CheckOk p t) : traceSm t := by
  refine ⟨Nat.le_trans h.n (by omega), ⟨Nat.le_trans h.m (by omega), fun x hx => right_small h (h.exits x hx)⟩, ?_, right_small h h.back.2⟩
  rcases Int.lt_or_eq_of_le h.loop0 with hl | hl
  · exact right_small h (h.turn1 hl).2
  · have := bareF_iff.1 (h.turn0 hl.symm)
    rw [this]
    exact ⟨by simp, by simp, by simp⟩
end Go.Proofs.YtefkifdhjabdiaaDoor
namespace Go.Proofs.YtefkifdhjabdiaaDoor
set_option linter.unusedVariables false
set_option linter.unusedSimpArgs false
theorem valueF_in {c : EChk} {v a : Int} (h : valueF c v a = true) : 0 ≤ v ∧ v < a ∧ v < (c.2.2.2.2.1.length : Int) := by
  unfold valueF at h
  by_cases h1 : 0 ≤ v
  · rw [if_pos h1] at h
    by_cases h2 : v < a
    · rw [if_pos h2] at h
      by_cases h3 : v < (c.2.2.2.2.1.length : Int)
      · exact ⟨h1, h2, h3⟩
      · rw [if_neg h3] at h; cases h
    · rw [if_neg h2] at h; cases h
  · rw [if_neg h1] at h; cases h
theorem mem_take3 {a b c : Int} {n : Nat} : (0 < n → a ∈ [a, b, c].take n) ∧ (1 < n → b ∈ [a, b, c].take n) ∧ (2 < n → c ∈ [a, b, c].take n) := by
  refine ⟨fun h => ?_, fun h => ?_, fun h => ?_⟩
  · rw [show n = (n - 1) + 1 by omega]; simp
  · rw [show n = (n - 2) + 1 + 1 by omega]; simp
  · rw [show n = (n - 3) + 1 + 1 + 1 by omega]; simp
theorem askF_le (x : EIns) : (askF x).length ≤ 3 := by
  unfold askF
  split
  · rw [List.length_take]; simp; omega
  · simp
theorem ask_in {p : EProg} {t : ETrace} (hc : CheckOk p t) {i : Nat} (hi : i < t.2.2.2.1.length) :
    ((0 : Int) < ((askF (t.2.2.2.1.getD i tIns.dflt)).length : Int) → 0 ≤ (t.2.2.2.1.getD i tIns.dflt).2.1 ∧ (t.2.2.2.1.getD i tIns.dflt).2.1 < (i : Int)) ∧
    ((1 : Int) < ((askF (t.2.2.2.1.getD i tIns.dflt)).length : Int) → 0 ≤ (t.2.2.2.1.getD i tIns.dflt).2.2.1 ∧ (t.2.2.2.1.getD i tIns.dflt).2.2.1 < (i : Int)) ∧
    ((2 : Int) < ((askF (t.2.2.2.1.getD i tIns.dflt)).length : Int) → 0 ≤ (t.2.2.2.1.getD i tIns.dflt).2.2.2.1 ∧ (t.2.2.2.1.getD i tIns.dflt).2.2.2.1 < (i : Int)) := by
  have ex : t.2.2.2.1[i]? = some (t.2.2.2.1.getD i tIns.dflt) := by rw [List.getD_eq_getElem?_getD, List.getElem?_eq_getElem hi]; rfl
  generalize hx : t.2.2.2.1.getD i tIns.dflt = x at ex ⊢
  obtain ⟨h1, h2⟩ := hc.ins i x ex
  unfold formedF at h2
  rw [Bool.and_eq_true] at h2
  have hv : ∀ v ∈ [x.2.1, x.2.2.1, x.2.2.2.1].take (ofF x.1).1.1.toNat, 0 ≤ v ∧ v < (i : Int) := fun v hm => by
    obtain ⟨q0, q1, _⟩ := valueF_in (List.all_eq_true.1 h2.1 v hm)
    exact ⟨q0, q1⟩
  have hl : (askF x).length ≤ (ofF x.1).1.1.toNat := by
    unfold askF
    rw [if_pos h1, List.length_take]
    omega
  obtain ⟨m0, m1, m2⟩ := mem_take3 (a := x.2.1) (b := x.2.2.1) (c := x.2.2.2.1) (n := (ofF x.1).1.1.toNat)
  exact ⟨fun h => hv _ (m0 (by omega)), fun h => hv _ (m1 (by omega)), fun h => hv _ (m2 (by omega))⟩
end Go.Proofs.YtefkifdhjabdiaaDoor
namespace Go.Proofs.YtefkifdhjabdiaaDoor
set_option maxHeartbeats 4000000
set_option linter.unusedVariables false
set_option linter.unusedSimpArgs false
set_option maxRecDepth 100000
def fstG {α : Type} (q : α → Bool) : Nat → List α → Int
  | _, [] => -1
  | i, f :: r => if q f = true then (i : Int) else fstG q (i + 1) r
theorem fstG_ge {α : Type} {q : α → Bool} : ∀ {l : List α} {i : Nat}, decide (0 ≤ fstG q i l) = l.any q
  | [], i => rfl
  | f :: r, i => by
    unfold fstG
    rw [List.any_cons]
    split
    · rename_i h; rw [h]; simp
    · rename_i h; rw [fstG_ge (l := r)]; simp only [Bool.not_eq_true] at h; rw [h]; rfl
def isQ (v w : Int) : Bool := decide (v = w)
def hasQ (ops : List Int) (x : EIns) : Bool := List.any ops (isQ x.1)
def setQ (x : EIns) (s : EVal) : Bool := decide (s.1 = x.2.2.2.2.1)
noncomputable def oc70 : Orc where
  pure := fun f args => match f, args with
    | _, _ => none
  heap := fun _ _ _ => none
def pIntI_lv : LV := ⟨(true :: true :: F4 (false :: true :: true :: F8 (F2 ([])))), []⟩
noncomputable def pIntI_T (l : List Int) (v : Int) : Tree :=
  .stop (lp (bodyOf Tryd.f152) 0) (.c (.ro tI l) :: .c (.int .i64 v) :: J4 (.junk :: .c (.int .i64 (l.length : Int)) :: .c (.int .i64 0) :: J8 (J2 ([])))) []
theorem pIntI_T_ok (l : List Int) (v : Int) : aRun Tryd.prog oc70 Tryd.f152 pIntI_lv 3000 [.code (bodyOf Tryd.f152)] ([.c (.ro tI l), .c (.int .i64 v)] ++ List.replicate (Func.ntmps Tryd.f152 - 2) .junk) [] = pIntI_T l v := by kernel_rfl
noncomputable def pIntI_l0_R (l : List Int) (v : Int) (i : Nat) : Tree :=
  .ite (decide (((i : Nat) : Int) < (l.length : Int)))
  (.need ((0 : Int) ≤ ((i : Nat) : Int) ∧ (((i : Nat) : Int) : Int) < (l.length : Int)) <|
   .need (i < l.length) <|
   .ite (decide (v = (l.getD i tI.dflt)))
   (.ret (.c (.int .i64 ((i : Nat) : Int))) [])
   (.need (inR .i64 (((i : Nat) : Int) + 1)) <|
    .stop (lp (bodyOf Tryd.f152) 0) (.c (.ro tI l) :: .c (.int .i64 v) :: J4 (.junk :: .c (.int .i64 (l.length : Int)) :: .c (.int .i64 (((i : Nat) : Int) + 1)) :: J8 (J2 ([])))) []))
  (.ret (.c (.int .i64 (-1))) [])
theorem pIntI_l0_R_ok (l : List Int) (v : Int) (i : Nat) : aRound Tryd.prog oc70 Tryd.f152 pIntI_lv 3000 (lp (bodyOf Tryd.f152) 0) (.c (.ro tI l) :: .c (.int .i64 v) :: J4 (.junk :: .c (.int .i64 (l.length : Int)) :: .c (.int .i64 ((i : Nat) : Int)) :: J8 (J2 ([])))) [] = pIntI_l0_R l v i := by kernel_rfl
theorem pIntI_l0 (l : List Int) (v : Int) (i : Nat) (hl : l.length ≤ 9223372036854775807) : Run Tryd.prog 152 (retQ Tryd.prog (.c (.int .i64 (fstG (isQ v) i (l.drop i))))) (lp (bodyOf Tryd.f152) 0) (.c (.ro tI l) :: .c (.int .i64 v) :: J4 (.junk :: .c (.int .i64 (l.length : Int)) :: .c (.int .i64 ((i : Nat) : Int)) :: J8 (J2 ([])))) [] :=
  Run.roundA oc70 pIntI_lv 3000 Tryd.func152 mixed (pIntI_l0_R l v i) (pIntI_l0_R_ok l v i) (by
    unfold pIntI_l0_R
    refine g_iteD (fun h0 => ?_) (fun h0 => ?_)
    · refine g_need (by omega) ?_
      refine g_need (by omega) ?_
      refine g_iteD (fun h1 => ?_) (fun h1 => ?_)
      · exact g_reti (by first | (rw [dropCons (α := Int) (Ty.dflt tI) (by omega)]; simp only [fstG, isQ, h0, h1, if_true, decide_true]; done) | (rw [List.drop_eq_nil_of_le (by omega)]; rfl))
      · refine g_need (i64_iff.2 (by omega)) ?_
        refine g_stop (RunN.keep [] (true :: true :: F4 (false :: true :: true :: F8 (F2 ([])))) n0 (by decide) rfl rfl ?_)
        have := pIntI_l0 l v (i + 1) hl; rw [dropCons (α := Int) (Ty.dflt tI) (by omega)]; simp only [fstG, isQ, h0, h1, if_false, Bool.false_eq_true, decide_false]; exact this
    · exact g_reti (by first | (rw [dropCons (α := Int) (Ty.dflt tI) (by omega)]; simp only [fstG, isQ, h0, if_true, decide_true]; done) | (rw [List.drop_eq_nil_of_le (by omega)]; rfl))
    )
  termination_by l.length - i
  decreasing_by all_goals omega
theorem pIntI_fun (l : List Int) (v : Int) : AFun Tryd.prog 152 [.c (.ro tI l), .c (.int .i64 v)] (.c (.int .i64 (fstG (isQ v) 0 l))) :=
  AFun.of oc70 pIntI_lv 3000 Tryd.func152 mixed rfl (by decide) (Nat.le_of_ble_eq_true rfl) _ (pIntI_T_ok l v) fun hF => by
    have hl : l.length ≤ 9223372036854775807 := hF.ro.1.1
    unfold pIntI_T
    refine g_stop (RunN.keep [] (true :: true :: F4 (false :: true :: true :: F8 (F2 ([])))) n0 (by decide) rfl rfl ?_)
    exact pIntI_l0 l v 0 hl

noncomputable def oc70c : Orc where
  pure := fun f args => match f, args with
    | 152, [a0, a1] => match dA (.slice tI) a0, dA tI a1 with
      | some x0, some x1 => some (.c (.int .i64 (fstG (isQ x1) 0 x0)))
      | _, _ => none
    | _, _ => none
  heap := fun _ _ _ => none
def pIntC_lv : LV := ⟨([]), []⟩
noncomputable def pIntC_T (l : List Int) (v : Int) : Tree :=
  .call 152 [.c (.ro tI l), .c (.int .i64 v)] false (.c (.int .i64 (fstG (isQ v) 0 l))) <|
  .ret (.c (.bool (decide ((0 : Int) ≤ fstG (isQ v) 0 l)))) []
theorem pIntC_T_ok (l : List Int) (v : Int) : aRun Tryd.prog oc70c Tryd.f126 pIntC_lv 3000 [.code (bodyOf Tryd.f126)] ([.c (.ro tI l), .c (.int .i64 v)] ++ List.replicate (Func.ntmps Tryd.f126 - 2) .junk) [] = pIntC_T l v := by kernel_rfl
theorem pIntC_fun (l : List Int) (v : Int) : AFun Tryd.prog 126 [.c (.ro tI l), .c (.int .i64 v)] (.c (.bool (List.any l (isQ v)))) :=
  AFun.of oc70c pIntC_lv 3000 Tryd.func126 mixed rfl (by decide) (Nat.le_of_ble_eq_true rfl) _ (pIntC_T_ok l v) fun hF => by
    unfold pIntC_T
    refine g_call (pIntI_fun l v) (fun h => nomatch h) ?_
    exact g_retb (by exact fstG_ge)

noncomputable def oc71 : Orc where
  pure := fun f args => match f, args with
    | 126, [a0, a1] => match dA (.slice tI) a0, dA tI a1 with
      | some x0, some x1 => some (.c (.bool (List.any x0 (isQ x1))))
      | _, _ => none
    | _, _ => none
  heap := fun _ _ _ => none
def hasq_lv : LV := ⟨([]), []⟩
noncomputable def hasq_T (x : EIns) (t : ETrace) (ops : List Int) : Tree :=
  .call 126 [.c (.ro tI ops), .c (.int .i64 x.1)] false (.c (.bool (List.any ops (isQ x.1)))) <|
  .ret (.c (.bool (List.any ops (isQ x.1)))) [.cells 29 (Ty.enc tTrace t), .cells 41 [.ro tI ops], .cells 46 (Ty.enc tIns x)]
theorem hasq_T_ok (x : EIns) (t : ETrace) (ops : List Int) : aRun Tryd.prog oc71 Tryd.f125 hasq_lv 3000 [.code (bodyOf Tryd.f125)] ([.agg (Ty.enc tIns x), .c (.ptr 1 0 0 0)] ++ List.replicate (Func.ntmps Tryd.f125 - 2) .junk) [.cells 29 (Ty.enc tTrace t), .cells 41 [.ro tI ops]] = hasq_T x t ops := by kernel_rfl
theorem hasq_fun (x : EIns) (t : ETrace) (ops : List Int) : AFunH Tryd.prog 125 [.agg (Ty.enc tIns x), .c (.ptr 1 0 0 0)] [.cells 29 (Ty.enc tTrace t), .cells 41 [.ro tI ops]] (.c (.bool (hasQ ops x))) [.cells 29 (Ty.enc tTrace t), .cells 41 [.ro tI ops]] (List.range 2) :=
  AFunH.of oc71 hasq_lv 3000 Tryd.func125 mixed rfl (by decide) (Nat.le_of_ble_eq_true rfl) rfl rfl (Nat.le_refl _) _ (hasq_T_ok x t ops) fun hF => by
    unfold hasq_T
    refine g_call (pIntC_fun ops x.1) (fun h => nomatch h) ?_
    exact g_rh [0, 1] (show ∀ k, k < 2 → ([0, 1] : List Nat)[k]? = some k by decide) (by decide) (by simp only [renA, ren1, renC, leAV, leA1, leC]; rfl) rfl

noncomputable def oc72 : Orc where
  pure := fun f args => match f, args with
    | _, _ => none
  heap := fun f args H => match f, args with
    | 125, [a0, .one (.c (.ptr 1 0 0 0))] => match H with
      | [b0, b1] => (match dA tIns a0, dB 29 tTrace b0, dB 41 (.slice tI) b1 with
        | some x0, some y0, some y1 => some (.c (.bool (hasQ y1 x0)), [b0, b1], List.range 2)
        | _, _, _ => none)
      | _ => none
    | _, _ => none
def pHasI_lv : LV := ⟨(true :: true :: F4 (false :: true :: true :: F8 (F2 ([])))), []⟩
noncomputable def pHasI_T (l : List EIns) (t : ETrace) (ops : List Int) : Tree :=
  .stop (lp (bodyOf Tryd.f151) 0) (.c (.ro tIns l) :: .c (.fnc (.fn0 125) (.ptr 1 0 0 0)) :: J4 (.junk :: .c (.int .i64 (l.length : Int)) :: .c (.int .i64 0) :: J8 (J2 ([])))) [.cells 29 (Ty.enc tTrace t), .cells 41 [.ro tI ops]]
theorem pHasI_T_ok (l : List EIns) (t : ETrace) (ops : List Int) : aRun Tryd.prog oc72 Tryd.f151 pHasI_lv 3000 [.code (bodyOf Tryd.f151)] ([.c (.ro tIns l), .c (.fnc (.fn0 125) (.ptr 1 0 0 0))] ++ List.replicate (Func.ntmps Tryd.f151 - 2) .junk) [.cells 29 (Ty.enc tTrace t), .cells 41 [.ro tI ops]] = pHasI_T l t ops := by kernel_rfl
noncomputable def pHasI_l0_R (l : List EIns) (t : ETrace) (ops : List Int) (i : Nat) : Tree :=
  .ite (decide (((i : Nat) : Int) < (l.length : Int)))
  (.need ((0 : Int) ≤ ((i : Nat) : Int) ∧ (((i : Nat) : Int) : Int) < (l.length : Int)) <|
   .need (i < l.length) <|
   .callH 125 [.agg [.int .i64 (l.getD i tIns.dflt).1, .int .i64 (l.getD i tIns.dflt).2.1, .int .i64 (l.getD i tIns.dflt).2.2.1, .int .i64 (l.getD i tIns.dflt).2.2.2.1, .int .i64 (l.getD i tIns.dflt).2.2.2.2.1, .int .i64 (l.getD i tIns.dflt).2.2.2.2.2.1, .int .i64 (l.getD i tIns.dflt).2.2.2.2.2.2.1, .int .i64 (l.getD i tIns.dflt).2.2.2.2.2.2.2], .c (.ptr 1 0 0 0)] [.cells 29 (Ty.enc tTrace t), .cells 41 [.ro tI ops]] (.c (.bool (hasQ ops (l.getD i tIns.dflt)))) [.cells 29 (Ty.enc tTrace t), .cells 41 [.ro tI ops]] [0, 1] <|
   .ite (hasQ ops (l.getD i tIns.dflt))
   (.ret (.c (.int .i64 ((i : Nat) : Int))) [.cells 29 (Ty.enc tTrace t), .cells 41 [.ro tI ops]])
   (.need (inR .i64 (((i : Nat) : Int) + 1)) <|
    .stop (lp (bodyOf Tryd.f151) 0) (.c (.ro tIns l) :: .c (.fnc (.fn0 125) (.ptr 1 0 0 0)) :: J4 (.junk :: .c (.int .i64 (l.length : Int)) :: .c (.int .i64 (((i : Nat) : Int) + 1)) :: J8 (J2 ([])))) [.cells 29 (Ty.enc tTrace t), .cells 41 [.ro tI ops]]))
  (.ret (.c (.int .i64 (-1))) [.cells 29 (Ty.enc tTrace t), .cells 41 [.ro tI ops]])
theorem pHasI_l0_R_ok (l : List EIns) (t : ETrace) (ops : List Int) (i : Nat) : aRound Tryd.prog oc72 Tryd.f151 pHasI_lv 3000 (lp (bodyOf Tryd.f151) 0) (.c (.ro tIns l) :: .c (.fnc (.fn0 125) (.ptr 1 0 0 0)) :: J4 (.junk :: .c (.int .i64 (l.length : Int)) :: .c (.int .i64 ((i : Nat) : Int)) :: J8 (J2 ([])))) [.cells 29 (Ty.enc tTrace t), .cells 41 [.ro tI ops]] = pHasI_l0_R l t ops i := by kernel_rfl
theorem pHasI_l0 (l : List EIns) (t : ETrace) (ops : List Int) (i : Nat) (hl : l.length ≤ 9223372036854775807) : RunN 2 Tryd.prog 151 (retH 2 (.c (.int .i64 (fstG (hasQ ops) i (l.drop i)))) [.cells 29 (Ty.enc tTrace t), .cells 41 [.ro tI ops]]) (lp (bodyOf Tryd.f151) 0) (.c (.ro tIns l) :: .c (.fnc (.fn0 125) (.ptr 1 0 0 0)) :: J4 (.junk :: .c (.int .i64 (l.length : Int)) :: .c (.int .i64 ((i : Nat) : Int)) :: J8 (J2 ([])))) [.cells 29 (Ty.enc tTrace t), .cells 41 [.ro tI ops]] :=
  Run.roundA oc72 pHasI_lv 3000 Tryd.func151 mixed (pHasI_l0_R l t ops i) (pHasI_l0_R_ok l t ops i) (by
    unfold pHasI_l0_R
    refine g_iteD (fun h0 => ?_) (fun h0 => ?_)
    · refine g_need (by omega) ?_
      refine g_need (by omega) ?_
      refine g_callH (hasq_fun (l.getD i tIns.dflt) t ops) ?_
      refine g_ite (fun h1 => ?_) (fun h1 => ?_)
      · exact g_rh [0, 1] (show ∀ k, k < 2 → ([0, 1] : List Nat)[k]? = some k by decide) (by decide) (by simp only [renA, ren1, renC, leAV, leA1, leC]; refine ⟨trivial, ?_⟩; first | (rw [dropCons (α := EIns) (Ty.dflt tIns) (by omega)]; simp only [fstG, h0, h1, if_true, decide_true]; done) | (rw [List.drop_eq_nil_of_le (by omega)]; rfl)) rfl
      · refine g_need (i64_iff.2 (by omega)) ?_
        refine g_stop (RunN.keep [0, 1] (true :: true :: F4 (false :: true :: true :: F8 (F2 ([])))) (show ∀ k, k < 2 → ([0, 1] : List Nat)[k]? = some k by decide) (by decide) rfl rfl ?_)
        have := pHasI_l0 l t ops (i + 1) hl; rw [dropCons (α := EIns) (Ty.dflt tIns) (by omega)]; simp only [fstG, h0, h1, if_false, Bool.false_eq_true, decide_false]; exact this
    · exact g_rh [0, 1] (show ∀ k, k < 2 → ([0, 1] : List Nat)[k]? = some k by decide) (by decide) (by simp only [renA, ren1, renC, leAV, leA1, leC]; refine ⟨trivial, ?_⟩; first | (rw [dropCons (α := EIns) (Ty.dflt tIns) (by omega)]; simp only [fstG, h0, if_true, decide_true]; done) | (rw [List.drop_eq_nil_of_le (by omega)]; rfl)) rfl
    )
  termination_by l.length - i
  decreasing_by all_goals omega
theorem pHasI_fun (l : List EIns) (t : ETrace) (ops : List Int) : AFunH Tryd.prog 151 [.c (.ro tIns l), .c (.fnc (.fn0 125) (.ptr 1 0 0 0))] [.cells 29 (Ty.enc tTrace t), .cells 41 [.ro tI ops]] (.c (.int .i64 (fstG (hasQ ops) 0 l))) [.cells 29 (Ty.enc tTrace t), .cells 41 [.ro tI ops]] (List.range 2) :=
  AFunH.of oc72 pHasI_lv 3000 Tryd.func151 mixed rfl (by decide) (Nat.le_of_ble_eq_true rfl) rfl rfl (Nat.le_refl _) _ (pHasI_T_ok l t ops) fun hF => by
    have hl : l.length ≤ 9223372036854775807 := (hF.ro (i := 0) rfl).1
    unfold pHasI_T
    refine g_stop (RunN.keep [0, 1] (true :: true :: F4 (false :: true :: true :: F8 (F2 ([])))) (show ∀ k, k < 2 → ([0, 1] : List Nat)[k]? = some k by decide) (by decide) rfl rfl ?_)
    exact pHasI_l0 l t ops 0 hl

noncomputable def oc72c : Orc where
  pure := fun f args => match f, args with
    | _, _ => none
  heap := fun f args H => match f, args with
    | 151, [a0, .one (.c (.fnc (.fn0 125) (.ptr 1 0 0 0)))] => match H with
      | [b0, b1] => (match dA (.slice tIns) a0, dB 29 tTrace b0, dB 41 (.slice tI) b1 with
        | some x0, some y0, some y1 => some (.c (.int .i64 (fstG (hasQ y1) 0 x0)), [b0, b1], List.range 2)
        | _, _, _ => none)
      | _ => none
    | _, _ => none
def pHasC_lv : LV := ⟨([]), []⟩
noncomputable def pHasC_T (l : List EIns) (t : ETrace) (ops : List Int) : Tree :=
  .callH 151 [.c (.ro tIns l), .c (.fnc (.fn0 125) (.ptr 1 0 0 0))] [.cells 29 (Ty.enc tTrace t), .cells 41 [.ro tI ops]] (.c (.int .i64 (fstG (hasQ ops) 0 l))) [.cells 29 (Ty.enc tTrace t), .cells 41 [.ro tI ops]] [0, 1] <|
  .ret (.c (.bool (decide ((0 : Int) ≤ fstG (hasQ ops) 0 l)))) [.cells 29 (Ty.enc tTrace t), .cells 41 [.ro tI ops]]
theorem pHasC_T_ok (l : List EIns) (t : ETrace) (ops : List Int) : aRun Tryd.prog oc72c Tryd.f124 pHasC_lv 3000 [.code (bodyOf Tryd.f124)] ([.c (.ro tIns l), .c (.fnc (.fn0 125) (.ptr 1 0 0 0))] ++ List.replicate (Func.ntmps Tryd.f124 - 2) .junk) [.cells 29 (Ty.enc tTrace t), .cells 41 [.ro tI ops]] = pHasC_T l t ops := by kernel_rfl
theorem pHasC_fun (l : List EIns) (t : ETrace) (ops : List Int) : AFunH Tryd.prog 124 [.c (.ro tIns l), .c (.fnc (.fn0 125) (.ptr 1 0 0 0))] [.cells 29 (Ty.enc tTrace t), .cells 41 [.ro tI ops]] (.c (.bool (List.any l (hasQ ops)))) [.cells 29 (Ty.enc tTrace t), .cells 41 [.ro tI ops]] (List.range 2) :=
  AFunH.of oc72c pHasC_lv 3000 Tryd.func124 mixed rfl (by decide) (Nat.le_of_ble_eq_true rfl) rfl rfl (Nat.le_refl _) _ (pHasC_T_ok l t ops) fun hF => by
    unfold pHasC_T
    refine g_callH (pHasI_fun l t ops) ?_
    exact g_rh [0, 1] (show ∀ k, k < 2 → ([0, 1] : List Nat)[k]? = some k by decide) (by decide) (by simp only [renA, ren1, renC, leAV, leA1, leC]; exact fstG_ge) rfl

noncomputable def oc73 : Orc where
  pure := fun f args => match f, args with
    | _, _ => none
  heap := fun f args H => match f, args with
    | 124, [a0, .one (.c (.fnc (.fn0 125) (.ptr 1 0 0 0)))] => match H with
      | [b0, b1] => (match dA (.slice tIns) a0, dB 29 tTrace b0, dB 41 (.slice tI) b1 with
        | some x0, some y0, some y1 => some (.c (.bool (List.any x0 (hasQ y1))), [b0, b1], List.range 2)
        | _, _, _ => none)
      | _ => none
    | _, _ => none
def has_lv : LV := ⟨([]), []⟩
noncomputable def has_T (t : ETrace) (ops : List Int) : Tree :=
  .callH 124 [.c (.ro tIns t.2.2.2.1), .c (.fnc (.fn0 125) (.ptr 1 0 0 0))] [.cells 29 (Ty.enc tTrace t), .cells 41 [.ro tI ops]] (.c (.bool (List.any t.2.2.2.1 (hasQ ops)))) [.cells 29 (Ty.enc tTrace t), .cells 41 [.ro tI ops]] [0, 1] <|
  .ret (.c (.bool (List.any t.2.2.2.1 (hasQ ops)))) [.cells 29 (Ty.enc tTrace t), .cells 41 [.ro tI ops]]
theorem has_T_ok (t : ETrace) (ops : List Int) : aRun Tryd.prog oc73 Tryd.f92 has_lv 3000 [.code (bodyOf Tryd.f92)] ([.agg (tTrace.enc t), .c (.ro tI ops)] ++ List.replicate (Func.ntmps Tryd.f92 - 2) .junk) [] = has_T t ops := by kernel_rfl
theorem has_fun (t : ETrace) (ops : List Int) : AFun Tryd.prog 92 [.agg (tTrace.enc t), .c (.ro tI ops)] (.c (.bool (List.any t.2.2.2.1 (hasQ ops)))) :=
  AFun.of oc73 has_lv 3000 Tryd.func92 mixed rfl (by decide) (Nat.le_of_ble_eq_true rfl) _ (has_T_ok t ops) fun hF => by
    unfold has_T
    refine g_callH (pHasC_fun t.2.2.2.1 t ops) ?_
    exact g_retb (by rfl)

noncomputable def oc74 : Orc where
  pure := fun f args => match f, args with
    | _, _ => none
  heap := fun _ _ _ => none
def firmq_lv : LV := ⟨([]), []⟩
noncomputable def firmq_T (s : EVal) (t : ETrace) (x : EIns) : Tree :=
  .ret (.c (.bool (decide (s.1 = x.2.2.2.2.1)))) [.cells 29 (Ty.enc tTrace t), .cells 46 (Ty.enc tIns x), .cells 116 (Ty.enc tVal s)]
theorem firmq_T_ok (s : EVal) (t : ETrace) (x : EIns) : aRun Tryd.prog oc74 Tryd.f91 firmq_lv 3000 [.code (bodyOf Tryd.f91)] ([.agg (Ty.enc tVal s), .c (.ptr 1 0 0 0)] ++ List.replicate (Func.ntmps Tryd.f91 - 2) .junk) [.cells 29 (Ty.enc tTrace t), .cells 46 (Ty.enc tIns x)] = firmq_T s t x := by kernel_rfl
theorem firmq_fun (s : EVal) (t : ETrace) (x : EIns) : AFunH Tryd.prog 91 [.agg (Ty.enc tVal s), .c (.ptr 1 0 0 0)] [.cells 29 (Ty.enc tTrace t), .cells 46 (Ty.enc tIns x)] (.c (.bool (setQ x s))) [.cells 29 (Ty.enc tTrace t), .cells 46 (Ty.enc tIns x)] (List.range 2) :=
  AFunH.of oc74 firmq_lv 3000 Tryd.func91 mixed rfl (by decide) (Nat.le_of_ble_eq_true rfl) rfl rfl (Nat.le_refl _) _ (firmq_T_ok s t x) fun hF => by
    unfold firmq_T
    exact g_rh [0, 1] (show ∀ k, k < 2 → ([0, 1] : List Nat)[k]? = some k by decide) (by decide) (by simp only [renA, ren1, renC, leAV, leA1, leC]; rfl) rfl

noncomputable def oc75 : Orc where
  pure := fun f args => match f, args with
    | _, _ => none
  heap := fun f args H => match f, args with
    | 91, [a0, .one (.c (.ptr 1 0 0 0))] => match H with
      | [b0, b1] => (match dA tVal a0, dB 29 tTrace b0, dB 46 tIns b1 with
        | some x0, some y0, some y1 => some (.c (.bool (setQ y1 x0)), [b0, b1], List.range 2)
        | _, _, _ => none)
      | _ => none
    | _, _ => none
def pSetI_lv : LV := ⟨(true :: true :: F4 (false :: true :: true :: F8 (F2 ([])))), []⟩
noncomputable def pSetI_T (l : List EVal) (t : ETrace) (x : EIns) : Tree :=
  .stop (lp (bodyOf Tryd.f123) 0) (.c (.ro tVal l) :: .c (.fnc (.fn0 91) (.ptr 1 0 0 0)) :: J4 (.junk :: .c (.int .i64 (l.length : Int)) :: .c (.int .i64 0) :: J8 (J2 ([])))) [.cells 29 (Ty.enc tTrace t), .cells 46 (Ty.enc tIns x)]
theorem pSetI_T_ok (l : List EVal) (t : ETrace) (x : EIns) : aRun Tryd.prog oc75 Tryd.f123 pSetI_lv 3000 [.code (bodyOf Tryd.f123)] ([.c (.ro tVal l), .c (.fnc (.fn0 91) (.ptr 1 0 0 0))] ++ List.replicate (Func.ntmps Tryd.f123 - 2) .junk) [.cells 29 (Ty.enc tTrace t), .cells 46 (Ty.enc tIns x)] = pSetI_T l t x := by kernel_rfl
noncomputable def pSetI_l0_R (l : List EVal) (t : ETrace) (x : EIns) (i : Nat) : Tree :=
  .ite (decide (((i : Nat) : Int) < (l.length : Int)))
  (.need ((0 : Int) ≤ ((i : Nat) : Int) ∧ (((i : Nat) : Int) : Int) < (l.length : Int)) <|
   .need (i < l.length) <|
   .callH 91 [.agg [.int .i64 (l.getD i tVal.dflt).1, .int .i64 (l.getD i tVal.dflt).2], .c (.ptr 1 0 0 0)] [.cells 29 (Ty.enc tTrace t), .cells 46 (Ty.enc tIns x)] (.c (.bool (setQ x (l.getD i tVal.dflt)))) [.cells 29 (Ty.enc tTrace t), .cells 46 (Ty.enc tIns x)] [0, 1] <|
   .ite (setQ x (l.getD i tVal.dflt))
   (.ret (.c (.int .i64 ((i : Nat) : Int))) [.cells 29 (Ty.enc tTrace t), .cells 46 (Ty.enc tIns x)])
   (.need (inR .i64 (((i : Nat) : Int) + 1)) <|
    .stop (lp (bodyOf Tryd.f123) 0) (.c (.ro tVal l) :: .c (.fnc (.fn0 91) (.ptr 1 0 0 0)) :: J4 (.junk :: .c (.int .i64 (l.length : Int)) :: .c (.int .i64 (((i : Nat) : Int) + 1)) :: J8 (J2 ([])))) [.cells 29 (Ty.enc tTrace t), .cells 46 (Ty.enc tIns x)]))
  (.ret (.c (.int .i64 (-1))) [.cells 29 (Ty.enc tTrace t), .cells 46 (Ty.enc tIns x)])
theorem pSetI_l0_R_ok (l : List EVal) (t : ETrace) (x : EIns) (i : Nat) : aRound Tryd.prog oc75 Tryd.f123 pSetI_lv 3000 (lp (bodyOf Tryd.f123) 0) (.c (.ro tVal l) :: .c (.fnc (.fn0 91) (.ptr 1 0 0 0)) :: J4 (.junk :: .c (.int .i64 (l.length : Int)) :: .c (.int .i64 ((i : Nat) : Int)) :: J8 (J2 ([])))) [.cells 29 (Ty.enc tTrace t), .cells 46 (Ty.enc tIns x)] = pSetI_l0_R l t x i := by kernel_rfl
theorem pSetI_l0 (l : List EVal) (t : ETrace) (x : EIns) (i : Nat) (hl : l.length ≤ 9223372036854775807) : RunN 2 Tryd.prog 123 (retH 2 (.c (.int .i64 (fstG (setQ x) i (l.drop i)))) [.cells 29 (Ty.enc tTrace t), .cells 46 (Ty.enc tIns x)]) (lp (bodyOf Tryd.f123) 0) (.c (.ro tVal l) :: .c (.fnc (.fn0 91) (.ptr 1 0 0 0)) :: J4 (.junk :: .c (.int .i64 (l.length : Int)) :: .c (.int .i64 ((i : Nat) : Int)) :: J8 (J2 ([])))) [.cells 29 (Ty.enc tTrace t), .cells 46 (Ty.enc tIns x)] :=
  Run.roundA oc75 pSetI_lv 3000 Tryd.func123 mixed (pSetI_l0_R l t x i) (pSetI_l0_R_ok l t x i) (by
    unfold pSetI_l0_R
    refine g_iteD (fun h0 => ?_) (fun h0 => ?_)
    · refine g_need (by omega) ?_
      refine g_need (by omega) ?_
      refine g_callH (firmq_fun (l.getD i tVal.dflt) t x) ?_
      refine g_ite (fun h1 => ?_) (fun h1 => ?_)
      · exact g_rh [0, 1] (show ∀ k, k < 2 → ([0, 1] : List Nat)[k]? = some k by decide) (by decide) (by simp only [renA, ren1, renC, leAV, leA1, leC]; refine ⟨trivial, ?_⟩; first | (rw [dropCons (α := EVal) (Ty.dflt tVal) (by omega)]; simp only [fstG, h0, h1, if_true, decide_true]; done) | (rw [List.drop_eq_nil_of_le (by omega)]; rfl)) rfl
      · refine g_need (i64_iff.2 (by omega)) ?_
        refine g_stop (RunN.keep [0, 1] (true :: true :: F4 (false :: true :: true :: F8 (F2 ([])))) (show ∀ k, k < 2 → ([0, 1] : List Nat)[k]? = some k by decide) (by decide) rfl rfl ?_)
        have := pSetI_l0 l t x (i + 1) hl; rw [dropCons (α := EVal) (Ty.dflt tVal) (by omega)]; simp only [fstG, h0, h1, if_false, Bool.false_eq_true, decide_false]; exact this
    · exact g_rh [0, 1] (show ∀ k, k < 2 → ([0, 1] : List Nat)[k]? = some k by decide) (by decide) (by simp only [renA, ren1, renC, leAV, leA1, leC]; refine ⟨trivial, ?_⟩; first | (rw [dropCons (α := EVal) (Ty.dflt tVal) (by omega)]; simp only [fstG, h0, if_true, decide_true]; done) | (rw [List.drop_eq_nil_of_le (by omega)]; rfl)) rfl
    )
  termination_by l.length - i
  decreasing_by all_goals omega
theorem pSetI_fun (l : List EVal) (t : ETrace) (x : EIns) : AFunH Tryd.prog 123 [.c (.ro tVal l), .c (.fnc (.fn0 91) (.ptr 1 0 0 0))] [.cells 29 (Ty.enc tTrace t), .cells 46 (Ty.enc tIns x)] (.c (.int .i64 (fstG (setQ x) 0 l))) [.cells 29 (Ty.enc tTrace t), .cells 46 (Ty.enc tIns x)] (List.range 2) :=
  AFunH.of oc75 pSetI_lv 3000 Tryd.func123 mixed rfl (by decide) (Nat.le_of_ble_eq_true rfl) rfl rfl (Nat.le_refl _) _ (pSetI_T_ok l t x) fun hF => by
    have hl : l.length ≤ 9223372036854775807 := (hF.ro (i := 0) rfl).1
    unfold pSetI_T
    refine g_stop (RunN.keep [0, 1] (true :: true :: F4 (false :: true :: true :: F8 (F2 ([])))) (show ∀ k, k < 2 → ([0, 1] : List Nat)[k]? = some k by decide) (by decide) rfl rfl ?_)
    exact pSetI_l0 l t x 0 hl

noncomputable def oc75c : Orc where
  pure := fun f args => match f, args with
    | _, _ => none
  heap := fun f args H => match f, args with
    | 123, [a0, .one (.c (.fnc (.fn0 91) (.ptr 1 0 0 0)))] => match H with
      | [b0, b1] => (match dA (.slice tVal) a0, dB 29 tTrace b0, dB 46 tIns b1 with
        | some x0, some y0, some y1 => some (.c (.int .i64 (fstG (setQ y1) 0 x0)), [b0, b1], List.range 2)
        | _, _, _ => none)
      | _ => none
    | _, _ => none
def pSetC_lv : LV := ⟨([]), []⟩
noncomputable def pSetC_T (l : List EVal) (t : ETrace) (x : EIns) : Tree :=
  .callH 123 [.c (.ro tVal l), .c (.fnc (.fn0 91) (.ptr 1 0 0 0))] [.cells 29 (Ty.enc tTrace t), .cells 46 (Ty.enc tIns x)] (.c (.int .i64 (fstG (setQ x) 0 l))) [.cells 29 (Ty.enc tTrace t), .cells 46 (Ty.enc tIns x)] [0, 1] <|
  .ret (.c (.bool (decide ((0 : Int) ≤ fstG (setQ x) 0 l)))) [.cells 29 (Ty.enc tTrace t), .cells 46 (Ty.enc tIns x)]
theorem pSetC_T_ok (l : List EVal) (t : ETrace) (x : EIns) : aRun Tryd.prog oc75c Tryd.f90 pSetC_lv 3000 [.code (bodyOf Tryd.f90)] ([.c (.ro tVal l), .c (.fnc (.fn0 91) (.ptr 1 0 0 0))] ++ List.replicate (Func.ntmps Tryd.f90 - 2) .junk) [.cells 29 (Ty.enc tTrace t), .cells 46 (Ty.enc tIns x)] = pSetC_T l t x := by kernel_rfl
theorem pSetC_fun (l : List EVal) (t : ETrace) (x : EIns) : AFunH Tryd.prog 90 [.c (.ro tVal l), .c (.fnc (.fn0 91) (.ptr 1 0 0 0))] [.cells 29 (Ty.enc tTrace t), .cells 46 (Ty.enc tIns x)] (.c (.bool (List.any l (setQ x)))) [.cells 29 (Ty.enc tTrace t), .cells 46 (Ty.enc tIns x)] (List.range 2) :=
  AFunH.of oc75c pSetC_lv 3000 Tryd.func90 mixed rfl (by decide) (Nat.le_of_ble_eq_true rfl) rfl rfl (Nat.le_refl _) _ (pSetC_T_ok l t x) fun hF => by
    unfold pSetC_T
    refine g_callH (pSetI_fun l t x) ?_
    exact g_rh [0, 1] (show ∀ k, k < 2 → ([0, 1] : List Nat)[k]? = some k by decide) (by decide) (by simp only [renA, ren1, renC, leAV, leA1, leC]; exact fstG_ge) rfl

def hasF (t : ETrace) (ops : List Int) : Bool := List.any t.2.2.2.1 (hasQ ops)
def firmF (t : ETrace) (x : EIns) : Bool :=
  if x.1 = 2 ∨ x.1 = 3 ∨ x.1 = 19 ∨ x.1 = 7 ∨ x.1 = 8 ∨ x.1 = 4 ∨ x.1 = 5 ∨ x.1 = 6 then true
  else if x.1 = 1 then !(List.any t.2.2.2.2.2.2.2.2.1 (setQ x))
  else if x.1 = 9 then (if x.2.2.2.2.1 = 1 then !(hasF t [12]) else true)
  else if x.1 = 10 ∨ x.1 = 13 then !(hasF t [11, 14])
  else if x.1 = 15 then !(hasF t [17, 12]) else false
noncomputable def oc76 : Orc where
  pure := fun f args => match f, args with
    | 92, [a0, a1] => match dA tTrace a0, dA (.slice tI) a1 with
      | some x0, some x1 => some (.c (.bool (List.any x0.2.2.2.1 (hasQ x1))))
      | _, _ => none
    | _, _ => none
  heap := fun f args H => match f, args with
    | 90, [a0, .one (.c (.fnc (.fn0 91) (.ptr 1 0 0 0)))] => match H with
      | [b0, b1] => (match dA (.slice tVal) a0, dB 29 tTrace b0, dB 46 tIns b1 with
        | some x0, some y0, some y1 => some (.c (.bool (List.any x0 (setQ y1))), [b0, b1], List.range 2)
        | _, _, _ => none)
      | _ => none
    | _, _ => none
def firm_lv : LV := ⟨(F2 (true :: true :: F2 (true :: F32 (F8 (false :: []))))), [11]⟩
noncomputable def firm_T (t : ETrace) (x : EIns) : Tree :=
  .ite (decide (x.1 = 2))
  (.ite (decide (x.1 = 2))
   (.ret (.c (.lit true)) [.cells 29 (Ty.enc tTrace t), .cells 46 (Ty.enc tIns x)])
   (.stop (rg (bodyOf Tryd.f55) 11) (J2 (.c (.ptr 0 0 0 0) :: .c (.ptr 1 0 0 0) :: J2 (.c (.int .i64 x.1) :: J32 (J8 (.junk :: []))))) [.cells 29 (Ty.enc tTrace t), .cells 46 (Ty.enc tIns x)]))
  (.ite (decide (x.1 = 3))
   (.ite (decide (x.1 = 3))
    (.ret (.c (.lit true)) [.cells 29 (Ty.enc tTrace t), .cells 46 (Ty.enc tIns x)])
    (.stop (rg (bodyOf Tryd.f55) 11) (J2 (.c (.ptr 0 0 0 0) :: .c (.ptr 1 0 0 0) :: J2 (.c (.int .i64 x.1) :: J32 (J8 (.junk :: []))))) [.cells 29 (Ty.enc tTrace t), .cells 46 (Ty.enc tIns x)]))
   (.ite (decide (x.1 = 19))
    (.ite (decide (x.1 = 19))
     (.ret (.c (.lit true)) [.cells 29 (Ty.enc tTrace t), .cells 46 (Ty.enc tIns x)])
     (.stop (rg (bodyOf Tryd.f55) 11) (J2 (.c (.ptr 0 0 0 0) :: .c (.ptr 1 0 0 0) :: J2 (.c (.int .i64 x.1) :: J32 (J8 (.junk :: []))))) [.cells 29 (Ty.enc tTrace t), .cells 46 (Ty.enc tIns x)]))
    (.ite (decide (x.1 = 7))
     (.ite (decide (x.1 = 7))
      (.ret (.c (.lit true)) [.cells 29 (Ty.enc tTrace t), .cells 46 (Ty.enc tIns x)])
      (.stop (rg (bodyOf Tryd.f55) 11) (J2 (.c (.ptr 0 0 0 0) :: .c (.ptr 1 0 0 0) :: J2 (.c (.int .i64 x.1) :: J32 (J8 (.junk :: []))))) [.cells 29 (Ty.enc tTrace t), .cells 46 (Ty.enc tIns x)]))
     (.ite (decide (x.1 = 8))
      (.ite (decide (x.1 = 8))
       (.ret (.c (.lit true)) [.cells 29 (Ty.enc tTrace t), .cells 46 (Ty.enc tIns x)])
       (.stop (rg (bodyOf Tryd.f55) 11) (J2 (.c (.ptr 0 0 0 0) :: .c (.ptr 1 0 0 0) :: J2 (.c (.int .i64 x.1) :: J32 (J8 (.junk :: []))))) [.cells 29 (Ty.enc tTrace t), .cells 46 (Ty.enc tIns x)]))
      (.ite (decide (x.1 = 4))
       (.ite (decide (x.1 = 4))
        (.ret (.c (.lit true)) [.cells 29 (Ty.enc tTrace t), .cells 46 (Ty.enc tIns x)])
        (.stop (rg (bodyOf Tryd.f55) 11) (J2 (.c (.ptr 0 0 0 0) :: .c (.ptr 1 0 0 0) :: J2 (.c (.int .i64 x.1) :: J32 (J8 (.junk :: []))))) [.cells 29 (Ty.enc tTrace t), .cells 46 (Ty.enc tIns x)]))
       (.ite (decide (x.1 = 5))
        (.ite (decide (x.1 = 5))
         (.ret (.c (.lit true)) [.cells 29 (Ty.enc tTrace t), .cells 46 (Ty.enc tIns x)])
         (.stop (rg (bodyOf Tryd.f55) 11) (J2 (.c (.ptr 0 0 0 0) :: .c (.ptr 1 0 0 0) :: J2 (.c (.int .i64 x.1) :: J32 (J8 (.junk :: []))))) [.cells 29 (Ty.enc tTrace t), .cells 46 (Ty.enc tIns x)]))
        (.ite (decide (x.1 = 6))
         (.ret (.c (.lit true)) [.cells 29 (Ty.enc tTrace t), .cells 46 (Ty.enc tIns x)])
         (.stop (rg (bodyOf Tryd.f55) 11) (J2 (.c (.ptr 0 0 0 0) :: .c (.ptr 1 0 0 0) :: J2 (.c (.int .i64 x.1) :: J32 (J8 (.junk :: []))))) [.cells 29 (Ty.enc tTrace t), .cells 46 (Ty.enc tIns x)]))))))))
theorem firm_T_ok (t : ETrace) (x : EIns) : aRun Tryd.prog oc76 Tryd.f55 firm_lv 3000 [.code (bodyOf Tryd.f55)] ([.agg (tTrace.enc t), .agg (tIns.enc x)] ++ List.replicate (Func.ntmps Tryd.f55 - 2) .junk) [] = firm_T t x := by kernel_rfl
noncomputable def firm_r11_R (t : ETrace) (x : EIns) : Tree :=
  .ite (decide (x.1 = 1))
  (.callH 90 [.c (.ro tVal t.2.2.2.2.2.2.2.2.1), .c (.fnc (.fn0 91) (.ptr 1 0 0 0))] [.cells 29 (Ty.enc tTrace t), .cells 46 (Ty.enc tIns x)] (.c (.bool (List.any t.2.2.2.2.2.2.2.2.1 (setQ x)))) [.cells 29 (Ty.enc tTrace t), .cells 46 (Ty.enc tIns x)] [0, 1] <|
   .ret (.c (.bool (!(List.any t.2.2.2.2.2.2.2.2.1 (setQ x))))) [.cells 29 (Ty.enc tTrace t), .cells 46 (Ty.enc tIns x)])
  (.ite (decide (x.1 = 9))
   (.ite ((!(decide (x.2.2.2.2.1 = 1))))
    (.ret (.c (.lit true)) [.cells 29 (Ty.enc tTrace t), .cells 46 (Ty.enc tIns x)])
    (.need (0 = 0 ∧ 1 = ([12]).length) <|
     .call 92 [.agg (Ty.enc tTrace t), .c (.ro tI ([12]))] true (.c (.bool (List.any t.2.2.2.1 (hasQ ([12]))))) <|
     .ret (.c (.bool (!(List.any t.2.2.2.1 (hasQ ([12])))))) [.cells 29 (Ty.enc tTrace t), .cells 46 (Ty.enc tIns x), .vec 3 tI ([12])]))
   (.ite (decide (x.1 = 10))
    (.ite (decide (x.1 = 10))
     (.need (0 = 0 ∧ 2 = ([11, 14]).length) <|
      .call 92 [.agg (Ty.enc tTrace t), .c (.ro tI ([11, 14]))] true (.c (.bool (List.any t.2.2.2.1 (hasQ ([11, 14]))))) <|
      .ret (.c (.bool (!(List.any t.2.2.2.1 (hasQ ([11, 14])))))) [.cells 29 (Ty.enc tTrace t), .cells 46 (Ty.enc tIns x), .vec 3 tI ([11, 14])])
     (.ite (decide (x.1 = 15))
      (.need (0 = 0 ∧ 2 = ([17, 12]).length) <|
       .call 92 [.agg (Ty.enc tTrace t), .c (.ro tI ([17, 12]))] true (.c (.bool (List.any t.2.2.2.1 (hasQ ([17, 12]))))) <|
       .ret (.c (.bool (!(List.any t.2.2.2.1 (hasQ ([17, 12])))))) [.cells 29 (Ty.enc tTrace t), .cells 46 (Ty.enc tIns x), .vec 3 tI ([17, 12])])
      (.ret (.c (.lit false)) [.cells 29 (Ty.enc tTrace t), .cells 46 (Ty.enc tIns x)])))
    (.ite (decide (x.1 = 13))
     (.need (0 = 0 ∧ 2 = ([11, 14]).length) <|
      .call 92 [.agg (Ty.enc tTrace t), .c (.ro tI ([11, 14]))] true (.c (.bool (List.any t.2.2.2.1 (hasQ ([11, 14]))))) <|
      .ret (.c (.bool (!(List.any t.2.2.2.1 (hasQ ([11, 14])))))) [.cells 29 (Ty.enc tTrace t), .cells 46 (Ty.enc tIns x), .vec 3 tI ([11, 14])])
     (.ite (decide (x.1 = 15))
      (.need (0 = 0 ∧ 2 = ([17, 12]).length) <|
       .call 92 [.agg (Ty.enc tTrace t), .c (.ro tI ([17, 12]))] true (.c (.bool (List.any t.2.2.2.1 (hasQ ([17, 12]))))) <|
       .ret (.c (.bool (!(List.any t.2.2.2.1 (hasQ ([17, 12])))))) [.cells 29 (Ty.enc tTrace t), .cells 46 (Ty.enc tIns x), .vec 3 tI ([17, 12])])
      (.ret (.c (.lit false)) [.cells 29 (Ty.enc tTrace t), .cells 46 (Ty.enc tIns x)])))))
theorem firm_r11_R_ok (t : ETrace) (x : EIns) : aRound Tryd.prog oc76 Tryd.f55 firm_lv 3000 (rg (bodyOf Tryd.f55) 11) (J2 (.c (.ptr 0 0 0 0) :: .c (.ptr 1 0 0 0) :: J2 (.c (.int .i64 x.1) :: J32 (J8 (.junk :: []))))) [.cells 29 (Ty.enc tTrace t), .cells 46 (Ty.enc tIns x)] = firm_r11_R t x := by kernel_rfl
theorem firm_r11 (t : ETrace) (x : EIns) (hx : ¬ (x.1 = 2 ∨ x.1 = 3 ∨ x.1 = 19 ∨ x.1 = 7 ∨ x.1 = 8 ∨ x.1 = 4 ∨ x.1 = 5 ∨ x.1 = 6)) : Run Tryd.prog 55 (retQ Tryd.prog (.c (.bool (firmF t x)))) (rg (bodyOf Tryd.f55) 11) (J2 (.c (.ptr 0 0 0 0) :: .c (.ptr 1 0 0 0) :: J2 (.c (.int .i64 x.1) :: J32 (J8 (.junk :: []))))) [.cells 29 (Ty.enc tTrace t), .cells 46 (Ty.enc tIns x)] :=
  Run.roundA oc76 firm_lv 3000 Tryd.func55 mixed (firm_r11_R t x) (firm_r11_R_ok t x) (by
    unfold firm_r11_R
    refine g_iteD (fun h0 => ?_) (fun h0 => ?_)
    · refine g_callH (pSetC_fun t.2.2.2.2.2.2.2.2.1 t x) ?_
      exact g_retb (by first | (rw [firmF, if_pos (by omega)]; done) | (rw [firmF, if_neg hx]; simp only [hasF, h0, if_true, if_false, true_or, or_true, or_false, false_or, Int.reduceEq, reduceIte]; done) | (rw [firmF, if_neg hx]; simp_all [hasF]; done))
    · refine g_iteD (fun h1 => ?_) (fun h1 => ?_)
      · refine g_iteND (fun h2 => ?_) (fun h2 => ?_)
        · exact g_retl (by first | (rw [firmF, if_pos (by omega)]; done) | (rw [firmF, if_neg hx]; simp only [hasF, h0, h1, h2, if_true, if_false, true_or, or_true, or_false, false_or, Int.reduceEq, reduceIte]; done) | (rw [firmF, if_neg hx]; simp_all [hasF]; done))
        · refine g_need (⟨rfl, rfl⟩) ?_
          refine g_call (has_fun t ([12])) (fun _ => rfl) ?_
          exact g_retb (by first | (rw [firmF, if_pos (by omega)]; done) | (rw [firmF, if_neg hx]; simp only [hasF, h0, h1, h2, if_true, if_false, true_or, or_true, or_false, false_or, Int.reduceEq, reduceIte]; done) | (rw [firmF, if_neg hx]; simp_all [hasF]; done))
      · refine g_iteD (fun h2 => ?_) (fun h2 => ?_)
        · refine g_iteD (fun h3 => ?_) (fun h3 => ?_)
          · refine g_need (by first | omega | (constructor <;> omega) | (rw [i64_iff]; omega) | (rw [i64_iff]; constructor <;> omega) | rfl | (simp; done)) ?_
            refine g_call (has_fun t ([11, 14])) (fun _ => rfl) ?_
            exact g_retb (by first | (rw [firmF, if_pos (by omega)]; done) | (rw [firmF, if_neg hx]; simp only [hasF, h0, h1, h2, h3, if_true, if_false, true_or, or_true, or_false, false_or, Int.reduceEq, reduceIte]; done) | (rw [firmF, if_neg hx]; simp_all [hasF]; done))
          · refine g_iteD (fun h4 => ?_) (fun h4 => ?_)
            · refine g_need (by first | omega | (constructor <;> omega) | (rw [i64_iff]; omega) | (rw [i64_iff]; constructor <;> omega) | rfl | (simp; done)) ?_
              refine g_call (has_fun t ([17, 12])) (fun _ => rfl) ?_
              exact g_retb (by first | (rw [firmF, if_pos (by omega)]; done) | (rw [firmF, if_neg hx]; simp only [hasF, h0, h1, h2, h3, h4, if_true, if_false, true_or, or_true, or_false, false_or, Int.reduceEq, reduceIte]; done) | (rw [firmF, if_neg hx]; simp_all [hasF]; done))
            · exact g_retl (by first | (rw [firmF, if_pos (by omega)]; done) | (rw [firmF, if_neg hx]; simp only [hasF, h0, h1, h2, h3, h4, if_true, if_false, true_or, or_true, or_false, false_or, Int.reduceEq, reduceIte]; done) | (rw [firmF, if_neg hx]; simp_all [hasF]; done))
        · refine g_iteD (fun h3 => ?_) (fun h3 => ?_)
          · refine g_need (by first | omega | (constructor <;> omega) | (rw [i64_iff]; omega) | (rw [i64_iff]; constructor <;> omega) | rfl | (simp; done)) ?_
            refine g_call (has_fun t ([11, 14])) (fun _ => rfl) ?_
            exact g_retb (by first | (rw [firmF, if_pos (by omega)]; done) | (rw [firmF, if_neg hx]; simp only [hasF, h0, h1, h2, h3, if_true, if_false, true_or, or_true, or_false, false_or, Int.reduceEq, reduceIte]; done) | (rw [firmF, if_neg hx]; simp_all [hasF]; done))
          · refine g_iteD (fun h4 => ?_) (fun h4 => ?_)
            · refine g_need (by first | omega | (constructor <;> omega) | (rw [i64_iff]; omega) | (rw [i64_iff]; constructor <;> omega) | rfl | (simp; done)) ?_
              refine g_call (has_fun t ([17, 12])) (fun _ => rfl) ?_
              exact g_retb (by first | (rw [firmF, if_pos (by omega)]; done) | (rw [firmF, if_neg hx]; simp only [hasF, h0, h1, h2, h3, h4, if_true, if_false, true_or, or_true, or_false, false_or, Int.reduceEq, reduceIte]; done) | (rw [firmF, if_neg hx]; simp_all [hasF]; done))
            · exact g_retl (by first | (rw [firmF, if_pos (by omega)]; done) | (rw [firmF, if_neg hx]; simp only [hasF, h0, h1, h2, h3, h4, if_true, if_false, true_or, or_true, or_false, false_or, Int.reduceEq, reduceIte]; done) | (rw [firmF, if_neg hx]; simp_all [hasF]; done))
    )
theorem firm_fun (t : ETrace) (x : EIns) : AFun Tryd.prog 55 [.agg (tTrace.enc t), .agg (tIns.enc x)] (.c (.bool (firmF t x))) :=
  AFun.of oc76 firm_lv 3000 Tryd.func55 mixed rfl (by decide) (Nat.le_of_ble_eq_true rfl) _ (firm_T_ok t x) fun hF => by
    unfold firm_T
    refine g_iteD (fun h0 => ?_) (fun h0 => ?_)
    · refine g_iteD (fun h1 => ?_) (fun h1 => ?_)
      · exact g_retl (by rw [firmF, if_pos (by omega)])
      · refine g_stop (RunN.keep [0, 1] (F2 (true :: true :: F2 (true :: F32 (F8 (false :: []))))) n0 (by decide) rfl rfl ?_)
        first | (exfalso; omega) | exact firm_r11 t x (by omega)
    · refine g_iteD (fun h1 => ?_) (fun h1 => ?_)
      · refine g_iteD (fun h2 => ?_) (fun h2 => ?_)
        · exact g_retl (by rw [firmF, if_pos (by omega)])
        · refine g_stop (RunN.keep [0, 1] (F2 (true :: true :: F2 (true :: F32 (F8 (false :: []))))) n0 (by decide) rfl rfl ?_)
          first | (exfalso; omega) | exact firm_r11 t x (by omega)
      · refine g_iteD (fun h2 => ?_) (fun h2 => ?_)
        · refine g_iteD (fun h3 => ?_) (fun h3 => ?_)
          · exact g_retl (by rw [firmF, if_pos (by omega)])
          · refine g_stop (RunN.keep [0, 1] (F2 (true :: true :: F2 (true :: F32 (F8 (false :: []))))) n0 (by decide) rfl rfl ?_)
            first | (exfalso; omega) | exact firm_r11 t x (by omega)
        · refine g_iteD (fun h3 => ?_) (fun h3 => ?_)
          · refine g_iteD (fun h4 => ?_) (fun h4 => ?_)
            · exact g_retl (by rw [firmF, if_pos (by omega)])
            · refine g_stop (RunN.keep [0, 1] (F2 (true :: true :: F2 (true :: F32 (F8 (false :: []))))) n0 (by decide) rfl rfl ?_)
              first | (exfalso; omega) | exact firm_r11 t x (by omega)
          · refine g_iteD (fun h4 => ?_) (fun h4 => ?_)
            · refine g_iteD (fun h5 => ?_) (fun h5 => ?_)
              · exact g_retl (by rw [firmF, if_pos (by omega)])
              · refine g_stop (RunN.keep [0, 1] (F2 (true :: true :: F2 (true :: F32 (F8 (false :: []))))) n0 (by decide) rfl rfl ?_)
                first | (exfalso; omega) | exact firm_r11 t x (by omega)
            · refine g_iteD (fun h5 => ?_) (fun h5 => ?_)
              · refine g_iteD (fun h6 => ?_) (fun h6 => ?_)
                · exact g_retl (by rw [firmF, if_pos (by omega)])
                · refine g_stop (RunN.keep [0, 1] (F2 (true :: true :: F2 (true :: F32 (F8 (false :: []))))) n0 (by decide) rfl rfl ?_)
                  first | (exfalso; omega) | exact firm_r11 t x (by omega)
              · refine g_iteD (fun h6 => ?_) (fun h6 => ?_)
                · refine g_iteD (fun h7 => ?_) (fun h7 => ?_)
                  · exact g_retl (by rw [firmF, if_pos (by omega)])
                  · refine g_stop (RunN.keep [0, 1] (F2 (true :: true :: F2 (true :: F32 (F8 (false :: []))))) n0 (by decide) rfl rfl ?_)
                    first | (exfalso; omega) | exact firm_r11 t x (by omega)
                · refine g_iteD (fun h7 => ?_) (fun h7 => ?_)
                  · exact g_retl (by rw [firmF, if_pos (by omega)])
                  · refine g_stop (RunN.keep [0, 1] (F2 (true :: true :: F2 (true :: F32 (F8 (false :: []))))) n0 (by decide) rfl rfl ?_)
                    first | (exfalso; omega) | exact firm_r11 t x (by omega)

end Go.Proofs.YtefkifdhjabdiaaDoor
namespace Go.Proofs.YtefkifdhjabdiaaDoor
set_option maxHeartbeats 4000000
set_option linter.unusedVariables false
set_option linter.unusedSimpArgs false
set_option maxRecDepth 100000
def shSet (n : Int) (s : EVal) : EVal := (s.1, s.2 + n)
def shMake (n : Int) (m : EMake) : EMake := (m.1 + n, m.2.1, m.2.2.1, m.2.2.2.map fun v => v + n)
def shExit (n : Int) (x : EExit) : EExit := (x.1, x.2.1, x.2.2.1.map (shSet n), x.2.2.2.map (shMake n))
/-- Values that can be moved on. -/
def exitLo (x : EExit) : Prop := (∀ s ∈ x.2.2.1, 0 ≤ s.2 ∧ s.2 ≤ 1000000) ∧ ∀ m ∈ x.2.2.2, (0 ≤ m.1 ∧ m.1 ≤ 1000000) ∧ ∀ v ∈ m.2.2.2, 0 ≤ v ∧ v ≤ 1000000
noncomputable def oc80 : Orc where
  pure := fun f args => match f, args with
    | _, _ => none
  heap := fun _ _ _ => none
def moved_lv : LV := ⟨(false :: true :: true :: false :: true :: true :: F4 (true :: F8 (true :: true :: true :: F16 (false :: true :: true :: true :: F8 (F4 (false :: true :: true :: true :: F16 (F4 ([])))))))), []⟩
noncomputable def moved_T (x : EExit) (n : Int) : Tree :=
  .stop (lp (bodyOf Tryd.f94) 0) (.junk :: .c (.int .i64 n) :: .c (.ptr 0 0 0 0) :: .junk :: .c (.ptr 1 0 0 0) :: .c (.ptr 2 0 0 0) :: J8 (J4 (.junk :: .c (.ro tVal x.2.2.1) :: .c (.int .i64 (x.2.2.1.length : Int)) :: .c (.int .i64 0) :: J32 (J16 (J8 ([])))))) [.cells 27 (Ty.enc tExit x), .cells 27 [.int .i64 0, .int .i64 0, .nilsl, .nilsl], .cells 27 [.int .i64 x.1, .int .i64 x.2.1, .nilsl, .nilsl]]
theorem moved_T_ok (x : EExit) (n : Int) : aRun Tryd.prog oc80 Tryd.f94 moved_lv 3000 [.code (bodyOf Tryd.f94)] ([.agg (tExit.enc x), .c (.int .i64 n)] ++ List.replicate (Func.ntmps Tryd.f94 - 2) .junk) [] = moved_T x n := by kernel_rfl
noncomputable def moved_l0_R (x : EExit) (n : Int) (i : Nat) (ss : List EVal) : Tree :=
  .ite (decide (((i : Nat) : Int) < (x.2.2.1.length : Int)))
  (.need ((0 : Int) ≤ ((i : Nat) : Int) ∧ (((i : Nat) : Int) : Int) < (x.2.2.1.length : Int)) <|
   .need (i < x.2.2.1.length) <|
   .need (inR .i64 ((x.2.2.1.getD i tVal.dflt).2 + n)) <|
   .need (ss.length = ss.length) <|
   .need (0 = 0 ∧ 1 = ([((x.2.2.1.getD i tVal.dflt).1, ((x.2.2.1.getD i tVal.dflt).2 + n))]).length) <|
   .need ((ss.length + ([((x.2.2.1.getD i tVal.dflt).1, ((x.2.2.1.getD i tVal.dflt).2 + n))]).length) * 16 ≤ 140737488355328) <|
   .need (inR .i64 (((i : Nat) : Int) + 1)) <|
   .stop (lp (bodyOf Tryd.f94) 0) (.junk :: .c (.int .i64 n) :: .c (.ptr 0 0 0 0) :: .junk :: .c (.ptr 1 0 0 0) :: .c (.ptr 2 0 0 0) :: J8 (J4 (.junk :: .c (.ro tVal x.2.2.1) :: .c (.int .i64 (x.2.2.1.length : Int)) :: .c (.int .i64 (((i : Nat) : Int) + 1)) :: J32 (J16 (J8 ([])))))) [.cells 27 (Ty.enc tExit x), .cells 27 [.int .i64 0, .int .i64 0, .nilsl, .nilsl], .cells 27 [.int .i64 x.1, .int .i64 x.2.1, .osl 6 2 (ss ++ [((x.2.2.1.getD i tVal.dflt).1, ((x.2.2.1.getD i tVal.dflt).2 + n))]).length, .nilsl], .dead, .cells 116 [.int .i64 (x.2.2.1.getD i tVal.dflt).1, .int .i64 (x.2.2.1.getD i tVal.dflt).2], .vec 116 tVal ([((x.2.2.1.getD i tVal.dflt).1, ((x.2.2.1.getD i tVal.dflt).2 + n))]), .ovec 116 tVal (ss ++ [((x.2.2.1.getD i tVal.dflt).1, ((x.2.2.1.getD i tVal.dflt).2 + n))])])
  (.stop (lp (bodyOf Tryd.f94) 1) (.junk :: .c (.int .i64 n) :: .c (.ptr 0 0 0 0) :: .junk :: .c (.ptr 1 0 0 0) :: .c (.ptr 2 0 0 0) :: J8 (J4 (.junk :: .c (.ro tVal x.2.2.1) :: .c (.int .i64 (x.2.2.1.length : Int)) :: .c (.int .i64 ((i : Nat) : Int)) :: J16 (.junk :: .c (.ro tMake x.2.2.2) :: .c (.int .i64 (x.2.2.2.length : Int)) :: .c (.int .i64 0) :: J32 (J4 ([])))))) [.cells 27 (Ty.enc tExit x), .cells 27 [.int .i64 0, .int .i64 0, .nilsl, .nilsl], .cells 27 [.int .i64 x.1, .int .i64 x.2.1, .osl 3 2 ss.length, .nilsl], .ovec 116 tVal ss])
theorem moved_l0_R_ok (x : EExit) (n : Int) (i : Nat) (ss : List EVal) : aRound Tryd.prog oc80 Tryd.f94 moved_lv 3000 (lp (bodyOf Tryd.f94) 0) (.junk :: .c (.int .i64 n) :: .c (.ptr 0 0 0 0) :: .junk :: .c (.ptr 1 0 0 0) :: .c (.ptr 2 0 0 0) :: J8 (J4 (.junk :: .c (.ro tVal x.2.2.1) :: .c (.int .i64 (x.2.2.1.length : Int)) :: .c (.int .i64 ((i : Nat) : Int)) :: J32 (J16 (J8 ([])))))) [.cells 27 (Ty.enc tExit x), .cells 27 [.int .i64 0, .int .i64 0, .nilsl, .nilsl], .cells 27 [.int .i64 x.1, .int .i64 x.2.1, .osl 3 2 ss.length, .nilsl], .ovec 116 tVal ss] = moved_l0_R x n i ss := by kernel_rfl
abbrev bCv2 (x : EExit) (ss : List EVal) (ms : List EMake) : AB := .cells 27 [.int .i64 x.1, .int .i64 x.2.1, .osl 2 2 ss.length, .osl 3 4 ms.length]
noncomputable def moved_l1_R (x : EExit) (n : Int) (j : Nat) (ss : List EVal) (ms : List EMake) : Tree :=
  .ite (decide (((j : Nat) : Int) < (x.2.2.2.length : Int)))
  (.need ((0 : Int) ≤ ((j : Nat) : Int) ∧ (((j : Nat) : Int) : Int) < (x.2.2.2.length : Int)) <|
   .need (j < x.2.2.2.length) <|
   .need (inR .i64 ((x.2.2.2.getD j tMake.dflt).1 + n)) <|
   .stop (lp (bodyOf Tryd.f94) 2) (.junk :: .c (.int .i64 n) :: J2 (.c (.ptr 0 0 0 0) :: .c (.ptr 1 0 0 0) :: J4 (.c (.ptr 5 0 0 0) :: J16 (J8 (J4 (.c (.ro tMake x.2.2.2) :: .c (.int .i64 (x.2.2.2.length : Int)) :: .c (.int .i64 ((j : Nat) : Int)) :: J8 (J4 (.junk :: .c (.ro tI (x.2.2.2.getD j tMake.dflt).2.2.2) :: .c (.int .i64 ((x.2.2.2.getD j tMake.dflt).2.2.2.length : Int)) :: .c (.int .i64 0) :: J16 (J4 ([])))))))))) [.cells 27 [.int .i64 0, .int .i64 0, .nilsl, .nilsl], (bCv2 x ss ms), .ovec 116 tVal ss, .ovec 118 tMake ms, .cells 118 [.int .i64 (x.2.2.2.getD j tMake.dflt).1, .int .i64 (x.2.2.2.getD j tMake.dflt).2.1, .int .i64 (x.2.2.2.getD j tMake.dflt).2.2.1, .ro tI (x.2.2.2.getD j tMake.dflt).2.2.2], .cells 118 [.int .i64 ((x.2.2.2.getD j tMake.dflt).1 + n), .int .i64 (x.2.2.2.getD j tMake.dflt).2.1, .int .i64 (x.2.2.2.getD j tMake.dflt).2.2.1, .nilsl]])
  (.ret (.agg [.int .i64 x.1, .int .i64 x.2.1, .osl 2 2 ss.length, .osl 3 4 ms.length]) [(bCv2 x ss ms), (bCv2 x ss ms), .ovec 116 tVal ss, .ovec 118 tMake ms])
theorem moved_l1_R_ok (x : EExit) (n : Int) (j : Nat) (ss : List EVal) (ms : List EMake) : aRound Tryd.prog oc80 Tryd.f94 moved_lv 3000 (lp (bodyOf Tryd.f94) 1) (.junk :: .c (.int .i64 n) :: J2 (.c (.ptr 0 0 0 0) :: .c (.ptr 1 0 0 0) :: J32 (.junk :: .c (.ro tMake x.2.2.2) :: .c (.int .i64 (x.2.2.2.length : Int)) :: .c (.int .i64 ((j : Nat) : Int)) :: J32 (J4 ([]))))) [.cells 27 [.int .i64 0, .int .i64 0, .nilsl, .nilsl], (bCv2 x ss ms), .ovec 116 tVal ss, .ovec 118 tMake ms] = moved_l1_R x n j ss ms := by kernel_rfl
abbrev bCv0 (x : EExit) (j : Nat) (k : Nat) : List AV := (J4 (.junk :: .c (.ro tI (x.2.2.2.getD j tMake.dflt).2.2.2) :: .c (.int .i64 ((x.2.2.2.getD j tMake.dflt).2.2.2.length : Int)) :: .c (.int .i64 ((k : Nat) : Int)) :: J16 (J4 ([]))))
abbrev bCv1 (x : EExit) (j : Nat) (n : Int) (vs : List Int) : AB := .cells 118 [.int .i64 ((x.2.2.2.getD j tMake.dflt).1 + n), .int .i64 (x.2.2.2.getD j tMake.dflt).2.1, .int .i64 (x.2.2.2.getD j tMake.dflt).2.2.1, .osl 5 1 vs.length]
noncomputable def moved_l2_R (x : EExit) (n : Int) (k : Nat) (j : Nat) (ss : List EVal) (ms : List EMake) (vs : List Int) : Tree :=
  .ite (decide (((k : Nat) : Int) < ((x.2.2.2.getD j tMake.dflt).2.2.2.length : Int)))
  (.need ((0 : Int) ≤ ((k : Nat) : Int) ∧ (((k : Nat) : Int) : Int) < ((x.2.2.2.getD j tMake.dflt).2.2.2.length : Int)) <|
   .need (k < (x.2.2.2.getD j tMake.dflt).2.2.2.length) <|
   .need (inR .i64 (((x.2.2.2.getD j tMake.dflt).2.2.2.getD k tI.dflt) + n)) <|
   .need (vs.length = vs.length) <|
   .need (0 = 0 ∧ 1 = ([(((x.2.2.2.getD j tMake.dflt).2.2.2.getD k tI.dflt) + n)]).length) <|
   .need ((vs.length + ([(((x.2.2.2.getD j tMake.dflt).2.2.2.getD k tI.dflt) + n)]).length) * 8 ≤ 140737488355328) <|
   .need (inR .i64 (((k : Nat) : Int) + 1)) <|
   .stop (lp (bodyOf Tryd.f94) 2) (.junk :: .c (.int .i64 n) :: J2 (.c (.ptr 0 0 0 0) :: .c (.ptr 1 0 0 0) :: J4 (.c (.ptr 4 0 0 0) :: J16 (J8 (J4 (.c (.ro tMake x.2.2.2) :: .c (.int .i64 (x.2.2.2.length : Int)) :: .c (.int .i64 ((j : Nat) : Int)) :: J8 (J4 (.junk :: .c (.ro tI (x.2.2.2.getD j tMake.dflt).2.2.2) :: .c (.int .i64 ((x.2.2.2.getD j tMake.dflt).2.2.2.length : Int)) :: .c (.int .i64 (((k : Nat) : Int) + 1)) :: J16 (J4 ([])))))))))) [.cells 27 [.int .i64 0, .int .i64 0, .nilsl, .nilsl], (bCv2 x ss ms), .ovec 116 tVal ss, .ovec 118 tMake ms, .cells 118 [.int .i64 ((x.2.2.2.getD j tMake.dflt).1 + n), .int .i64 (x.2.2.2.getD j tMake.dflt).2.1, .int .i64 (x.2.2.2.getD j tMake.dflt).2.2.1, .osl 7 1 (vs ++ [(((x.2.2.2.getD j tMake.dflt).2.2.2.getD k tI.dflt) + n)]).length], .dead, .vec 3 tI ([(((x.2.2.2.getD j tMake.dflt).2.2.2.getD k tI.dflt) + n)]), .ovec 3 tI (vs ++ [(((x.2.2.2.getD j tMake.dflt).2.2.2.getD k tI.dflt) + n)])])
  (.need (vs.length = vs.length) <|
   .need (ms.length = ms.length) <|
   .need (0 = 0 ∧ 1 = ([(((x.2.2.2.getD j tMake.dflt).1 + n), ((x.2.2.2.getD j tMake.dflt).2.1, ((x.2.2.2.getD j tMake.dflt).2.2.1, vs)))]).length) <|
   .need ((ms.length + ([(((x.2.2.2.getD j tMake.dflt).1 + n), ((x.2.2.2.getD j tMake.dflt).2.1, ((x.2.2.2.getD j tMake.dflt).2.2.1, vs)))]).length) * 48 ≤ 140737488355328) <|
   .need (inR .i64 (((j : Nat) : Int) + 1)) <|
   .stop (lp (bodyOf Tryd.f94) 1) (.junk :: .c (.int .i64 n) :: J2 (.c (.ptr 0 0 0 0) :: .c (.ptr 1 0 0 0) :: J4 (.c (.ptr 4 0 0 0) :: J16 (J8 (J4 (.c (.ro tMake x.2.2.2) :: .c (.int .i64 (x.2.2.2.length : Int)) :: .c (.int .i64 (((j : Nat) : Int) + 1)) :: J8 (bCv0 x j k))))))) [.cells 27 [.int .i64 0, .int .i64 0, .nilsl, .nilsl], .cells 27 [.int .i64 x.1, .int .i64 x.2.1, .osl 2 2 ss.length, .osl 7 4 (ms ++ [(((x.2.2.2.getD j tMake.dflt).1 + n), ((x.2.2.2.getD j tMake.dflt).2.1, ((x.2.2.2.getD j tMake.dflt).2.2.1, vs)))]).length], .ovec 116 tVal ss, .dead, (bCv1 x j n vs), .dead, .vec 118 tMake ([(((x.2.2.2.getD j tMake.dflt).1 + n), ((x.2.2.2.getD j tMake.dflt).2.1, ((x.2.2.2.getD j tMake.dflt).2.2.1, vs)))]), .ovec 118 tMake (ms ++ [(((x.2.2.2.getD j tMake.dflt).1 + n), ((x.2.2.2.getD j tMake.dflt).2.1, ((x.2.2.2.getD j tMake.dflt).2.2.1, vs)))])])
theorem moved_l2_R_ok (x : EExit) (n : Int) (k : Nat) (j : Nat) (ss : List EVal) (ms : List EMake) (vs : List Int) : aRound Tryd.prog oc80 Tryd.f94 moved_lv 3000 (lp (bodyOf Tryd.f94) 2) (.junk :: .c (.int .i64 n) :: J2 (.c (.ptr 0 0 0 0) :: .c (.ptr 1 0 0 0) :: J4 (.c (.ptr 4 0 0 0) :: J16 (J8 (J4 (.c (.ro tMake x.2.2.2) :: .c (.int .i64 (x.2.2.2.length : Int)) :: .c (.int .i64 ((j : Nat) : Int)) :: J8 (bCv0 x j k))))))) [.cells 27 [.int .i64 0, .int .i64 0, .nilsl, .nilsl], (bCv2 x ss ms), .ovec 116 tVal ss, .ovec 118 tMake ms, (bCv1 x j n vs), .ovec 3 tI vs] = moved_l2_R x n k j ss ms vs := by kernel_rfl
theorem moved_l2 (x : EExit) (n : Int) (k : Nat) (j : Nat) (ss : List EVal) (ms : List EMake) (vs : List Int) (hs : exitSm x) (hv : exitLo x) (hn0 : 0 ≤ n ∧ n ≤ 1000000) (hj : j < x.2.2.2.length ∧ ms.length ≤ j) (hb : vs.length ≤ k) (hn : ∀ (ms' : List EMake), ms'.length ≤ j + 1 → Run Tryd.prog 94 (retQ Tryd.prog (.agg (Ty.enc tExit ((x.1, x.2.1, ss, ms' ++ (x.2.2.2.drop (j + 1)).map (shMake n)))))) (lp (bodyOf Tryd.f94) 1) (.junk :: .c (.int .i64 n) :: J2 (.c (.ptr 0 0 0 0) :: .c (.ptr 1 0 0 0) :: J32 (.junk :: .c (.ro tMake x.2.2.2) :: .c (.int .i64 (x.2.2.2.length : Int)) :: .c (.int .i64 (((j + 1) : Nat) : Int)) :: J32 (J4 ([]))))) [.cells 27 [.int .i64 0, .int .i64 0, .nilsl, .nilsl], .cells 27 [.int .i64 x.1, .int .i64 x.2.1, .osl 2 2 ss.length, .osl 3 4 ms'.length], .ovec 116 tVal ss, .ovec 118 tMake ms']) : Run Tryd.prog 94 (retQ Tryd.prog (.agg (Ty.enc tExit ((x.1, x.2.1, ss, ms ++ ((x.2.2.2.getD j tMake.dflt).1 + n, (x.2.2.2.getD j tMake.dflt).2.1, (x.2.2.2.getD j tMake.dflt).2.2.1, vs ++ ((x.2.2.2.getD j tMake.dflt).2.2.2.drop k).map (fun v => v + n)) :: (x.2.2.2.drop (j + 1)).map (shMake n)))))) (lp (bodyOf Tryd.f94) 2) (.junk :: .c (.int .i64 n) :: J2 (.c (.ptr 0 0 0 0) :: .c (.ptr 1 0 0 0) :: J4 (.c (.ptr 4 0 0 0) :: J16 (J8 (J4 (.c (.ro tMake x.2.2.2) :: .c (.int .i64 (x.2.2.2.length : Int)) :: .c (.int .i64 ((j : Nat) : Int)) :: J8 (bCv0 x j k))))))) [.cells 27 [.int .i64 0, .int .i64 0, .nilsl, .nilsl], (bCv2 x ss ms), .ovec 116 tVal ss, .ovec 118 tMake ms, (bCv1 x j n vs), .ovec 3 tI vs] :=
  Run.roundA oc80 moved_lv 3000 Tryd.func94 mixed (moved_l2_R x n k j ss ms vs) (moved_l2_R_ok x n k j ss ms vs) (by
    unfold moved_l2_R
    refine g_iteD (fun h0 => ?_) (fun h0 => ?_)
    · refine g_need (by omega) ?_
      refine g_need (by omega) ?_
      refine g_need (by first | omega | (constructor <;> omega) | (rw [i64_iff]; omega) | (rw [i64_iff]; constructor <;> omega) | rfl | (simp; done) | (have q := hs.2.2 _ (getD_mem (α := EMake) (Ty.dflt tMake) (by omega : j < x.2.2.2.length)); have q3 := hv.2 _ (getD_mem (α := EMake) (Ty.dflt tMake) (by omega : j < x.2.2.2.length)); have q1 := hs.1; have q2 := hs.2.1; (try simp only [List.length_cons, List.length_nil]); first | omega | (rw [i64_iff]; omega) | (have q4 := q3.2 _ (getD_mem (α := Int) (Ty.dflt tI) (by omega : k < (x.2.2.2.getD j tMake.dflt).2.2.2.length)); rw [i64_iff]; omega))) ?_
      refine g_need (rfl) ?_
      refine g_need (⟨rfl, rfl⟩) ?_
      refine g_need (by first | omega | (constructor <;> omega) | (rw [i64_iff]; omega) | (rw [i64_iff]; constructor <;> omega) | rfl | (simp; done) | (have q := hs.2.2 _ (getD_mem (α := EMake) (Ty.dflt tMake) (by omega : j < x.2.2.2.length)); have q3 := hv.2 _ (getD_mem (α := EMake) (Ty.dflt tMake) (by omega : j < x.2.2.2.length)); have q1 := hs.1; have q2 := hs.2.1; (try simp only [List.length_cons, List.length_nil]); first | omega | (rw [i64_iff]; omega) | (have q4 := q3.2 _ (getD_mem (α := Int) (Ty.dflt tI) (by omega : k < (x.2.2.2.getD j tMake.dflt).2.2.2.length)); rw [i64_iff]; omega))) ?_
      refine g_need (by first | omega | (constructor <;> omega) | (rw [i64_iff]; omega) | (rw [i64_iff]; constructor <;> omega) | rfl | (simp; done) | (have q := hs.2.2 _ (getD_mem (α := EMake) (Ty.dflt tMake) (by omega : j < x.2.2.2.length)); have q3 := hv.2 _ (getD_mem (α := EMake) (Ty.dflt tMake) (by omega : j < x.2.2.2.length)); have q1 := hs.1; have q2 := hs.2.1; (try simp only [List.length_cons, List.length_nil]); first | omega | (rw [i64_iff]; omega) | (have q4 := q3.2 _ (getD_mem (α := Int) (Ty.dflt tI) (by omega : k < (x.2.2.2.getD j tMake.dflt).2.2.2.length)); rw [i64_iff]; omega))) ?_
      refine g_stop (RunN.keep [0, 1, 2, 3, 4, 7] (false :: true :: F2 (true :: true :: F4 (true :: F16 (F8 (F4 (true :: true :: true :: F8 (F4 (false :: true :: true :: true :: F16 (F4 ([])))))))))) n0 (by decide) rfl rfl ?_)
      have := moved_l2 x n (k + 1) j ss ms (vs ++ [(((x.2.2.2.getD j tMake.dflt).2.2.2.getD k tI.dflt) + n)]) hs hv hn0 hj (by simp; omega) hn; have e1 : vs ++ ((x.2.2.2.getD j tMake.dflt).2.2.2.drop k).map (fun v => v + n) = (vs ++ [(x.2.2.2.getD j tMake.dflt).2.2.2.getD k tI.dflt + n]) ++ ((x.2.2.2.getD j tMake.dflt).2.2.2.drop (k + 1)).map (fun v => v + n) := (by rw [dropCons (α := Int) (Ty.dflt tI) (by omega)]; simp); rw [e1]; exact this
    · refine g_need (rfl) ?_
      refine g_need (rfl) ?_
      refine g_need (⟨rfl, rfl⟩) ?_
      refine g_need (by first | omega | (constructor <;> omega) | (rw [i64_iff]; omega) | (rw [i64_iff]; constructor <;> omega) | rfl | (simp; done) | (have q := hs.2.2 _ (getD_mem (α := EMake) (Ty.dflt tMake) (by omega : j < x.2.2.2.length)); have q3 := hv.2 _ (getD_mem (α := EMake) (Ty.dflt tMake) (by omega : j < x.2.2.2.length)); have q1 := hs.1; have q2 := hs.2.1; (try simp only [List.length_cons, List.length_nil]); first | omega | (rw [i64_iff]; omega) | (have q4 := q3.2 _ (getD_mem (α := Int) (Ty.dflt tI) (by omega : k < (x.2.2.2.getD j tMake.dflt).2.2.2.length)); rw [i64_iff]; omega))) ?_
      refine g_need (by first | omega | (constructor <;> omega) | (rw [i64_iff]; omega) | (rw [i64_iff]; constructor <;> omega) | rfl | (simp; done) | (have q := hs.2.2 _ (getD_mem (α := EMake) (Ty.dflt tMake) (by omega : j < x.2.2.2.length)); have q3 := hv.2 _ (getD_mem (α := EMake) (Ty.dflt tMake) (by omega : j < x.2.2.2.length)); have q1 := hs.1; have q2 := hs.2.1; (try simp only [List.length_cons, List.length_nil]); first | omega | (rw [i64_iff]; omega) | (have q4 := q3.2 _ (getD_mem (α := Int) (Ty.dflt tI) (by omega : k < (x.2.2.2.getD j tMake.dflt).2.2.2.length)); rw [i64_iff]; omega))) ?_
      refine g_stop (RunN.keep [0, 1, 2, 7] (false :: true :: F2 (true :: true :: F32 (false :: true :: true :: true :: F32 (F4 ([]))))) n0 (by decide) rfl rfl ?_)
      have := hn (ms ++ [((x.2.2.2.getD j tMake.dflt).1 + n, (x.2.2.2.getD j tMake.dflt).2.1, (x.2.2.2.getD j tMake.dflt).2.2.1, vs)]) (by simp; omega); rw [show (x.2.2.2.getD j tMake.dflt).2.2.2.drop k = [] from List.drop_eq_nil_of_le (by omega), List.map_nil, List.append_nil]; rw [List.append_assoc, List.singleton_append] at this; exact this
    )
  termination_by (x.2.2.2.getD j tMake.dflt).2.2.2.length - k
  decreasing_by all_goals omega
theorem moved_l1 (x : EExit) (n : Int) (j : Nat) (ss : List EVal) (ms : List EMake) (hs : exitSm x) (hv : exitLo x) (hn0 : 0 ≤ n ∧ n ≤ 1000000) (hm : ms.length ≤ j) : Run Tryd.prog 94 (retQ Tryd.prog (.agg (Ty.enc tExit ((x.1, x.2.1, ss, ms ++ (x.2.2.2.drop j).map (shMake n)))))) (lp (bodyOf Tryd.f94) 1) (.junk :: .c (.int .i64 n) :: J2 (.c (.ptr 0 0 0 0) :: .c (.ptr 1 0 0 0) :: J32 (.junk :: .c (.ro tMake x.2.2.2) :: .c (.int .i64 (x.2.2.2.length : Int)) :: .c (.int .i64 ((j : Nat) : Int)) :: J32 (J4 ([]))))) [.cells 27 [.int .i64 0, .int .i64 0, .nilsl, .nilsl], (bCv2 x ss ms), .ovec 116 tVal ss, .ovec 118 tMake ms] :=
  Run.roundA oc80 moved_lv 3000 Tryd.func94 mixed (moved_l1_R x n j ss ms) (moved_l1_R_ok x n j ss ms) (by
    unfold moved_l1_R
    refine g_iteD (fun h0 => ?_) (fun h0 => ?_)
    · refine g_need (by omega) ?_
      refine g_need (by omega) ?_
      refine g_need (by first | omega | (constructor <;> omega) | (rw [i64_iff]; omega) | (rw [i64_iff]; constructor <;> omega) | rfl | (simp; done) | (have q := hs.2.2 _ (getD_mem (α := EMake) (Ty.dflt tMake) (by omega : j < x.2.2.2.length)); have q3 := hv.2 _ (getD_mem (α := EMake) (Ty.dflt tMake) (by omega : j < x.2.2.2.length)); have q1 := hs.1; have q2 := hs.2.1; (try simp only [List.length_cons, List.length_nil]); first | omega | (rw [i64_iff]; omega) | (have q4 := q3.2 _ (getD_mem (α := Int) (Ty.dflt tI) (by omega : k < (x.2.2.2.getD j tMake.dflt).2.2.2.length)); rw [i64_iff]; omega))) ?_
      refine g_stop (RunN.keep [0, 1, 2, 3, 5, 1005] (false :: true :: F2 (true :: true :: F4 (true :: F16 (F8 (F4 (true :: true :: true :: F8 (F4 (false :: true :: true :: true :: F16 (F4 ([])))))))))) n0 (by decide) rfl rfl ?_)
      refine RunN.less (env' := (.junk :: .c (.int .i64 n) :: J2 (.c (.ptr 0 0 0 0) :: .c (.ptr 1 0 0 0) :: J4 (.c (.ptr 4 0 0 0) :: J16 (J8 (J4 (.c (.ro tMake x.2.2.2) :: .c (.int .i64 (x.2.2.2.length : Int)) :: .c (.int .i64 ((j : Nat) : Int)) :: J8 (J4 (.junk :: .c (.ro tI (x.2.2.2.getD j tMake.dflt).2.2.2) :: .c (.int .i64 ((x.2.2.2.getD j tMake.dflt).2.2.2.length : Int)) :: .c (.int .i64 ((0 : Nat) : Int)) :: J16 (J4 ([]))))))))))) (H' := [.cells 27 [.int .i64 0, .int .i64 0, .nilsl, .nilsl], (bCv2 x ss ms), .ovec 116 tVal ss, .ovec 118 tMake ms, .cells 118 [.int .i64 ((x.2.2.2.getD j tMake.dflt).1 + n), .int .i64 (x.2.2.2.getD j tMake.dflt).2.1, .int .i64 (x.2.2.2.getD j tMake.dflt).2.2.1, .osl 5 1 0], .ovec 3 tI ([])]) (leAVs.same rfl) (⟨leB.refl _, leB.refl _, leB.refl _, leB.refl _, ⟨rfl, leC.refl _, leC.refl _, leC.refl _, rfl, trivial⟩, rfl, trivial⟩) ?_
      have ht := moved_l2 x n 0 j ss ms ([]) hs hv hn0 ⟨by omega, hm⟩ (by simp) (fun ms' hq => moved_l1 x n (j + 1) ss ms' hs hv hn0 hq); have e1 : ms ++ (x.2.2.2.drop j).map (shMake n) = ms ++ ((x.2.2.2.getD j tMake.dflt).1 + n, (x.2.2.2.getD j tMake.dflt).2.1, (x.2.2.2.getD j tMake.dflt).2.2.1, [] ++ ((x.2.2.2.getD j tMake.dflt).2.2.2.drop 0).map (fun v => v + n)) :: (x.2.2.2.drop (j + 1)).map (shMake n) := (by rw [dropCons (α := EMake) (Ty.dflt tMake) (by omega : j < x.2.2.2.length)]; rfl); rw [e1]; exact ht
    · refine g_rq ?_
      refine g_need (rfl) ?_
      refine g_need (rfl) ?_
      exact g_rl (⟨⟨rfl, (show (x.1 : Int) = (x.1, x.2.1, ss, ms ++ (x.2.2.2.drop j).map (shMake n)).1 from by first | rfl | (rw [List.drop_eq_nil_of_le (by omega)]; simp; done))⟩, ⟨rfl, (show (x.2.1 : Int) = (x.1, x.2.1, ss, ms ++ (x.2.2.2.drop j).map (shMake n)).2.1 from by first | rfl | (rw [List.drop_eq_nil_of_le (by omega)]; simp; done))⟩, ⟨rfl, (show (ss) = (x.1, x.2.1, ss, ms ++ (x.2.2.2.drop j).map (shMake n)).2.2.1 from by first | rfl | (rw [List.drop_eq_nil_of_le (by omega)]; simp; done))⟩, ⟨rfl, (show (ms) = (x.1, x.2.1, ss, ms ++ (x.2.2.2.drop j).map (shMake n)).2.2.2 from by first | rfl | (rw [List.drop_eq_nil_of_le (by omega)]; simp; done))⟩, trivial⟩) rfl
    )
  termination_by x.2.2.2.length - j
  decreasing_by all_goals omega
theorem moved_l0 (x : EExit) (n : Int) (i : Nat) (ss : List EVal) (hs : exitSm x) (hv : exitLo x) (hn0 : 0 ≤ n ∧ n ≤ 1000000) (hm : ss.length ≤ i) : Run Tryd.prog 94 (retQ Tryd.prog (.agg (Ty.enc tExit ((x.1, x.2.1, ss ++ (x.2.2.1.drop i).map (shSet n), x.2.2.2.map (shMake n)))))) (lp (bodyOf Tryd.f94) 0) (.junk :: .c (.int .i64 n) :: .c (.ptr 0 0 0 0) :: .junk :: .c (.ptr 1 0 0 0) :: .c (.ptr 2 0 0 0) :: J8 (J4 (.junk :: .c (.ro tVal x.2.2.1) :: .c (.int .i64 (x.2.2.1.length : Int)) :: .c (.int .i64 ((i : Nat) : Int)) :: J32 (J16 (J8 ([])))))) [.cells 27 (Ty.enc tExit x), .cells 27 [.int .i64 0, .int .i64 0, .nilsl, .nilsl], .cells 27 [.int .i64 x.1, .int .i64 x.2.1, .osl 3 2 ss.length, .nilsl], .ovec 116 tVal ss] :=
  Run.roundA oc80 moved_lv 3000 Tryd.func94 mixed (moved_l0_R x n i ss) (moved_l0_R_ok x n i ss) (by
    unfold moved_l0_R
    refine g_iteD (fun h0 => ?_) (fun h0 => ?_)
    · refine g_need (by omega) ?_
      refine g_need (by omega) ?_
      refine g_need (by first | omega | (constructor <;> omega) | (rw [i64_iff]; omega) | (rw [i64_iff]; constructor <;> omega) | rfl | (simp; done) | (have q3 := hv.1 _ (getD_mem (α := EVal) (Ty.dflt tVal) (by omega : i < x.2.2.1.length)); have q1 := hs.1; have q2 := hs.2.1; (try simp only [List.length_cons, List.length_nil]); first | omega | (rw [i64_iff]; omega))) ?_
      refine g_need (rfl) ?_
      refine g_need (⟨rfl, rfl⟩) ?_
      refine g_need (by first | omega | (constructor <;> omega) | (rw [i64_iff]; omega) | (rw [i64_iff]; constructor <;> omega) | rfl | (simp; done) | (have q3 := hv.1 _ (getD_mem (α := EVal) (Ty.dflt tVal) (by omega : i < x.2.2.1.length)); have q1 := hs.1; have q2 := hs.2.1; (try simp only [List.length_cons, List.length_nil]); first | omega | (rw [i64_iff]; omega))) ?_
      refine g_need (by first | omega | (constructor <;> omega) | (rw [i64_iff]; omega) | (rw [i64_iff]; constructor <;> omega) | rfl | (simp; done) | (have q3 := hv.1 _ (getD_mem (α := EVal) (Ty.dflt tVal) (by omega : i < x.2.2.1.length)); have q1 := hs.1; have q2 := hs.2.1; (try simp only [List.length_cons, List.length_nil]); first | omega | (rw [i64_iff]; omega))) ?_
      refine g_stop (RunN.keep [0, 1, 2, 6] (false :: true :: true :: false :: true :: true :: F8 (F4 (false :: true :: true :: true :: F32 (F16 (F8 ([])))))) n0 (by decide) rfl rfl ?_)
      have ht := moved_l0 x n (i + 1) (ss ++ [((x.2.2.1.getD i tVal.dflt).1, ((x.2.2.1.getD i tVal.dflt).2 + n))]) hs hv hn0 (by simp; omega); have e1 : ss ++ (x.2.2.1.drop i).map (shSet n) = (ss ++ [shSet n (x.2.2.1.getD i tVal.dflt)]) ++ (x.2.2.1.drop (i + 1)).map (shSet n) := (by rw [dropCons (α := EVal) (Ty.dflt tVal) (by omega)]; simp); rw [e1]; exact ht
    · refine g_stop (RunN.keep [1, 2, 3, 1003] (false :: true :: F2 (true :: true :: F32 (false :: true :: true :: true :: F32 (F4 ([]))))) n0 (by decide) rfl rfl ?_)
      refine RunN.less (env' := (.junk :: .c (.int .i64 n) :: J2 (.c (.ptr 0 0 0 0) :: .c (.ptr 1 0 0 0) :: J32 (.junk :: .c (.ro tMake x.2.2.2) :: .c (.int .i64 (x.2.2.2.length : Int)) :: .c (.int .i64 ((0 : Nat) : Int)) :: J32 (J4 ([])))))) (H' := [.cells 27 [.int .i64 0, .int .i64 0, .nilsl, .nilsl], .cells 27 [.int .i64 x.1, .int .i64 x.2.1, .osl 2 2 ss.length, .osl 3 4 0], .ovec 116 tVal ss, .ovec 118 tMake ([])]) (leAVs.same rfl) (⟨leB.refl _, ⟨rfl, leC.refl _, leC.refl _, leC.refl _, rfl, trivial⟩, leB.refl _, rfl, trivial⟩) ?_
      have ht := moved_l1 x n 0 ss ([]) hs hv hn0 (by simp); rw [List.drop_zero, List.nil_append] at ht; rw [show x.2.2.1.drop i = [] from List.drop_eq_nil_of_le (by omega), List.map_nil, List.append_nil]; exact ht
    )
  termination_by x.2.2.1.length - i
  decreasing_by all_goals omega
theorem moved_fun (x : EExit) (n : Int) (hs : exitSm x) (hv : exitLo x) (hn0 : 0 ≤ n ∧ n ≤ 1000000) : AFun Tryd.prog 94 [.agg (tExit.enc x), .c (.int .i64 n)] (.agg (Ty.enc tExit (shExit n x))) :=
  AFun.of oc80 moved_lv 3000 Tryd.func94 mixed rfl (by decide) (Nat.le_of_ble_eq_true rfl) _ (moved_T_ok x n) fun hF => by
    unfold moved_T
    refine g_stop (RunN.keep [0, 1, 2, 1003] (false :: true :: true :: false :: true :: true :: F8 (F4 (false :: true :: true :: true :: F32 (F16 (F8 ([])))))) n0 (by decide) rfl rfl ?_)
    refine RunN.less (env' := (.junk :: .c (.int .i64 n) :: .c (.ptr 0 0 0 0) :: .junk :: .c (.ptr 1 0 0 0) :: .c (.ptr 2 0 0 0) :: J8 (J4 (.junk :: .c (.ro tVal x.2.2.1) :: .c (.int .i64 (x.2.2.1.length : Int)) :: .c (.int .i64 ((0 : Nat) : Int)) :: J32 (J16 (J8 ([]))))))) (H' := [.cells 27 (Ty.enc tExit x), .cells 27 [.int .i64 0, .int .i64 0, .nilsl, .nilsl], .cells 27 [.int .i64 x.1, .int .i64 x.2.1, .osl 3 2 0, .nilsl], .ovec 116 tVal ([])]) (leAVs.same rfl) (⟨leB.refl _, leB.refl _, ⟨rfl, leC.refl _, leC.refl _, rfl, leC.refl _, trivial⟩, rfl, trivial⟩) ?_
    exact moved_l0 x n 0 ([]) hs hv hn0 (by simp)

end Go.Proofs.YtefkifdhjabdiaaDoor
namespace Go.Proofs.YtefkifdhjabdiaaDoor
set_option linter.unusedVariables false
set_option linter.unusedSimpArgs false
open Go.RowKit
theorem Stp.fresh {σ : Sg} {G G' : Nat → AB} {w w' : World} {m g : Nat} (hr : RelG σ G w) (hm : ¬ σ.D m) (hb : Below w.heap.size w w') (hg : w.heap.size ≤ g) (hB : ∀ σ', Ext σ w σ' w' → Blk σ' w' g (G' m)) :
    Stp σ G w [m] G' ⟨fun k => if k = m then g else σ.ι k, fun k => σ.D k ∨ k = m, σ.R⟩ w' := by
  have hx : Ext σ w ⟨fun k => if k = m then g else σ.ι k, fun k => σ.D k ∨ k = m, σ.R⟩ w' :=
    ⟨fun k hk => ⟨.inl hk, by simp only; rw [if_neg (by rintro rfl; exact hm hk)]⟩, fun _ h => h, fun k _ hlt => hb.block k hlt, fun k c e' fr hk => ⟨c, fr, by rw [hb.block k (Array.getElem?_eq_some_iff.1 hk).1]; exact hk, rfl⟩⟩
  refine ⟨fun b => by simp, hx, (Chg.of_below hb).mono fun _ h => h.elim, ?_, ?_, ?_, fun k h => .inl h, ?_, fun k hk => Nat.lt_of_lt_of_le (hr.rlt k hk) hb.size⟩
  · intro b hb' _
    obtain rfl : b = m := by simpa using hb'
    have := hB _ hx
    simpa using this
  · intro b hb' _
    obtain rfl : b = m := by simpa using hb'
    right; simpa using hg
  · intro b hb' b' hb'' _ _ _
    obtain rfl : b = m := by simpa using hb'
    obtain rfl : b' = b := by simpa using hb''
    rfl
  · intro b hb' _ hR
    obtain rfl : b = m := by simpa using hb'
    have := hr.rlt _ hR
    simp at this
    omega
/-- A function that tells a row of its own. -/
theorem AFunH.ofOwn {f : Nat} {t u : Ty} {e : TypeId} {xs : List t.El} {ys : List u.El} (hp : (t.rd : Rd t.El).sz = t.sz) (hen : ∀ v w, (callFunc f #[v]).run Tryd.prog w = .ok (.enter f #[v]) w) (h : ∀ (ok : Nat → Prop) (w : World) (v : Value), (∀ k, ok k → k < w.heap.size) → SlK u.rd ok w ys v → Calls Tryd.prog f #[v] w fun e' w' => ∃ v1, e' = .returned v1 ∧ Below w.heap.size w w' ∧ ((xs = [] ∧ ∃ A, v1 = .slice A 0 0) ∨ xs ≠ [] ∧ Own t.rd e ok w' w.heap.size v1 xs)) :
    AFunH Tryd.prog f [.c (.ro u ys)] [] (.c (.osl 0 t.sz xs.length)) [.ovec e t xs] [0] where
  len := by simp
  lt := by simp
  off := fun b hb => by
    have : b ≠ 0 := by simpa using hb
    rw [gv_none (by simp; omega), gv_none (by simp)]
  act := fun σ w vs hr hD hv => by
    obtain ⟨x, r, rfl, hx, hr'⟩ := vals_one hv
    obtain rfl := vals_nil hr'
    have hm : ¬ σ.D 0 := hD 0 (by simp) (by simp)
    refine .inl ⟨hen x w, (h σ.R w x hr.rlt hx).mono fun e' w' ⟨v1, he, hb, hq⟩ => ⟨v1, he, ?_⟩⟩
    clear he
    rcases hq with ⟨hn, A, rfl⟩ | ⟨hn, ho⟩
    · subst hn
      refine ⟨_, Stp.fresh (g := w.heap.size) hr hm hb (Nat.le_refl _) (fun σ' _ => ?_), ?_⟩
      · show Blk σ' w' _ (gv [AB.ovec e t []] 0)
        trivial
      · exact ⟨A, rfl⟩
    · obtain ⟨cells, ⟨hl, h2⟩, hxs⟩ := ho.ex
      have hlen : xs.length ≠ 0 := fun h => hn (List.eq_nil_of_length_eq_zero h)
      rcases h2 with ⟨_, h0⟩ | ⟨g, cap, cur, rfl, hg, hh, hc, hmx, hsz, htk⟩
      · exact absurd h0 hlen
      · refine ⟨_, Stp.fresh (g := g) hr hm hb hg (fun σ' hσ => ?_), ?_⟩
        · show Blk σ' w' g (gv [AB.ovec e t xs] 0)
          rw [gv_ovec rfl hn]
          refine ⟨cur, hh, ?_, fun i y hi => ?_⟩
          · rw [hsz, hp]; exact Nat.mul_le_mul_right _ hc
          · have hi' : i < xs.length := (List.getElem?_eq_some_iff.1 hi).1
            have hq := hxs i y hi
            rw [hp, ← htk] at hq
            have e1 : (cur.toList.take (xs.length * t.rd.sz)).drop (i * t.sz) = (cur.toList.drop (i * t.sz)).take (xs.length * t.rd.sz - i * t.sz) := by rw [List.drop_take]
            rw [e1, List.take_take, Nat.min_eq_left (by rw [hp, ← Nat.sub_mul]; exact Nat.le_mul_of_pos_left _ (by omega))] at hq
            exact t.rd.mono (fun k hk => hσ.R k hk.1) hq
        · show if xs.length = 0 then _ else _
          rw [if_neg hlen]
          exact ⟨.inr rfl, t.sz_pos, cap, cur, e, (0, 0), by simp, hc, by simpa [maxLen] using hmx, by simpa using hh, by rw [hsz, hp]⟩
theorem infoX : (Tryd.prog.info? 27).map (fun i => (i.zero, i.size, i.bytes)) = some (some (Value.agg #[.int .i64 0, .int .i64 0, .slice none 0 0, .slice none 0 0]), 4, 64) := by kernel_rfl
set_option maxRecDepth 100000 in
set_option maxHeartbeats 4000000 in
theorem cloneX_any (xs : List EExit) (hl : xs.length ≤ 1000) (ok : Nat → Prop) (w : World) (v : Value) (hok : ∀ k, ok k → k < w.heap.size) (h : SlK tExit.rd ok w xs v) :
    Calls Tryd.prog 52 #[v] w fun e w' => ∃ v1, e = .returned v1 ∧ Below w.heap.size w w' ∧ ((xs = [] ∧ ∃ A, v1 = .slice A 0 0) ∨ xs ≠ [] ∧ Own tExit.rd 27 ok w' w.heap.size v1 xs) := by
  obtain ⟨A, c, hv, h1, h2, h3, hC⟩ := h
  injection hv with hv
  subst hv
  cases A with
  | none =>
    have hc : c = 0 := h3 rfl
    subst hc
    have hx : xs = [] := List.eq_nil_of_length_eq_zero (by omega)
    subst hx
    clear hC h1 h2 h3 hl
    have hq : ([] : List EExit).length = 0 := rfl
    rw [hq]
    have heq : ∀ w, (binOp .eql 23 (.slice none 0 0) (.slice none 0 0)).run Tryd.prog w = .ok (.bool true) w := fun w => run_eql_nil_nil w _ _ Tryd.underlying23
    go_enter Tryd.func52, Tryd.ntmps52
    go_wp2_with fail
    go_ret
    exact ⟨_, rfl, Below.refl _ _, (by first | exact ⟨none, rfl⟩ | exact .inl ⟨trivial, none, rfl⟩)⟩
  | some a =>
    have heq : ∀ w, (binOp .eql 23 (.slice (some a) xs.length c) (.slice none 0 0)).run Tryd.prog w = .ok (.bool false) w := fun w => run_eql_some_nil w _ _ _ _ _ Tryd.underlying23
    have hB : Below w.heap.size w (w.alloc (.cells #[] 27)) := (Below.refl _ _).alloc (Nat.le_refl _) _
    have main : ∃ v1 w2, (Builtin.append_ #[23, 23] 23 #[.slice (some ⟨w.heap.size, 0, none⟩) 0 0, .slice (some a) xs.length c]).run Tryd.prog (w.alloc (.cells #[] 27)) = .ok v1 w2 ∧ Below w.heap.size w w2 ∧ ((xs = [] ∧ ∃ A, v1 = .slice A 0 0) ∨ xs ≠ [] ∧ Own tExit.rd 27 ok w2 w.heap.size v1 xs) := by
      by_cases hx : xs = []
      · subst hx
        obtain ⟨ie, hie, _⟩ := Option.map_eq_some_iff.1 infoX
        exact ⟨_, _, run_append_none Tryd.underlying23 hie _ _ _ 0 0 _ c (Nat.le_refl _), hB, .inl ⟨rfl, _, rfl⟩⟩
      · obtain ⟨v1, w2, hr, ho, hg, hat⟩ := (Own.laid tExit.rd 27 ok w w.heap.size (Nat.le_refl _)).append (t := 23) Tryd.underlying23 infoX rfl (by decide) (by decide) (some a) xs.length c (fun h => by cases h) (hC.move (fun k hk _ => hB.block k (hok k hk))) (fun k hk => ⟨hk, by simp only [Value.ownBlock]; intro he; injection he with he; have := hok k hk; omega⟩) (by simp; omega) (by simp) 23
        exact ⟨v1, w2, hr, hB.grown hg hB.size (fun k hk => by simp [Value.ownBlock] at hk; omega), .inr ⟨hx, by rw [List.nil_append] at ho; exact ho⟩⟩
    obtain ⟨v1, w2, hr, hres⟩ := main
    have H := Lib.hid hres
    clear hres hB hC h3 h1 h2 hl hok
    generalize xs.length = m at *
    go_enter Tryd.func52, Tryd.ntmps52
    go_wp2_with (at_builtin; refine wpList_append_eq rfl _ _ _ rfl _ _ rfl rfl hr ?_)
    go_ret
    exact ⟨_, rfl, H.out.1, H.out.2⟩
theorem cloneX_fun (xs : List EExit) (hl : xs.length ≤ 1000) : AFunH Tryd.prog 52 [.c (.ro tExit xs)] [] (.c (.osl 0 4 xs.length)) [.ovec 27 tExit xs] [0] :=
  AFunH.ofOwn (t := tExit) (u := tExit) rfl (fun v w => enters_of Tryd.func52 (by decide) rfl _ _) (cloneX_any xs hl)
theorem infoI : (Tryd.prog.info? 46).map (fun i => (i.zero, i.size, i.bytes)) = some (some (Value.agg #[.int .i64 0, .int .i64 0, .int .i64 0, .int .i64 0, .int .i64 0, .int .i64 0, .int .i64 0, .int .i64 0]), 8, 64) := by kernel_rfl
set_option maxRecDepth 100000 in
set_option maxHeartbeats 4000000 in
theorem cloneI_any (xs : List EIns) (hl : xs.length ≤ 1000) (ok : Nat → Prop) (w : World) (v : Value) (hok : ∀ k, ok k → k < w.heap.size) (h : SlK tIns.rd ok w xs v) :
    Calls Tryd.prog 64 #[v] w fun e w' => ∃ v1, e = .returned v1 ∧ Below w.heap.size w w' ∧ ((xs = [] ∧ ∃ A, v1 = .slice A 0 0) ∨ xs ≠ [] ∧ Own tIns.rd 46 ok w' w.heap.size v1 xs) := by
  obtain ⟨A, c, hv, h1, h2, h3, hC⟩ := h
  injection hv with hv
  subst hv
  cases A with
  | none =>
    have hc : c = 0 := h3 rfl
    subst hc
    have hx : xs = [] := List.eq_nil_of_length_eq_zero (by omega)
    subst hx
    clear hC h1 h2 h3 hl
    have hq : ([] : List EIns).length = 0 := rfl
    rw [hq]
    have heq : ∀ w, (binOp .eql 22 (.slice none 0 0) (.slice none 0 0)).run Tryd.prog w = .ok (.bool true) w := fun w => run_eql_nil_nil w _ _ Tryd.underlying22
    go_enter Tryd.func64, Tryd.ntmps64
    go_wp2_with fail
    go_ret
    exact ⟨_, rfl, Below.refl _ _, (by first | exact ⟨none, rfl⟩ | exact .inl ⟨trivial, none, rfl⟩)⟩
  | some a =>
    have heq : ∀ w, (binOp .eql 22 (.slice (some a) xs.length c) (.slice none 0 0)).run Tryd.prog w = .ok (.bool false) w := fun w => run_eql_some_nil w _ _ _ _ _ Tryd.underlying22
    have hB : Below w.heap.size w (w.alloc (.cells #[] 46)) := (Below.refl _ _).alloc (Nat.le_refl _) _
    have main : ∃ v1 w2, (Builtin.append_ #[22, 22] 22 #[.slice (some ⟨w.heap.size, 0, none⟩) 0 0, .slice (some a) xs.length c]).run Tryd.prog (w.alloc (.cells #[] 46)) = .ok v1 w2 ∧ Below w.heap.size w w2 ∧ ((xs = [] ∧ ∃ A, v1 = .slice A 0 0) ∨ xs ≠ [] ∧ Own tIns.rd 46 ok w2 w.heap.size v1 xs) := by
      by_cases hx : xs = []
      · subst hx
        obtain ⟨ie, hie, _⟩ := Option.map_eq_some_iff.1 infoI
        exact ⟨_, _, run_append_none Tryd.underlying22 hie _ _ _ 0 0 _ c (Nat.le_refl _), hB, .inl ⟨rfl, _, rfl⟩⟩
      · obtain ⟨v1, w2, hr, ho, hg, hat⟩ := (Own.laid tIns.rd 46 ok w w.heap.size (Nat.le_refl _)).append (t := 22) Tryd.underlying22 infoI rfl (by decide) (by decide) (some a) xs.length c (fun h => by cases h) (hC.move (fun k hk _ => hB.block k (hok k hk))) (fun k hk => ⟨hk, by simp only [Value.ownBlock]; intro he; injection he with he; have := hok k hk; omega⟩) (by simp; omega) (by simp) 22
        exact ⟨v1, w2, hr, hB.grown hg hB.size (fun k hk => by simp [Value.ownBlock] at hk; omega), .inr ⟨hx, by rw [List.nil_append] at ho; exact ho⟩⟩
    obtain ⟨v1, w2, hr, hres⟩ := main
    have H := Lib.hid hres
    clear hres hB hC h3 h1 h2 hl hok
    generalize xs.length = m at *
    go_enter Tryd.func64, Tryd.ntmps64
    go_wp2_with (at_builtin; refine wpList_append_eq rfl _ _ _ rfl _ _ rfl rfl hr ?_)
    go_ret
    exact ⟨_, rfl, H.out.1, H.out.2⟩
theorem cloneI_fun (xs : List EIns) (hl : xs.length ≤ 1000) : AFunH Tryd.prog 64 [.c (.ro tIns xs)] [] (.c (.osl 0 8 xs.length)) [.ovec 46 tIns xs] [0] :=
  AFunH.ofOwn (t := tIns) (u := tIns) rfl (fun v w => enters_of Tryd.func64 (by decide) rfl _ _) (cloneI_any xs hl)
end Go.Proofs.YtefkifdhjabdiaaDoor
namespace Go.Proofs.YtefkifdhjabdiaaDoor
set_option maxHeartbeats 4000000
set_option linter.unusedVariables false
set_option linter.unusedSimpArgs false
set_option maxRecDepth 100000
theorem sets_lo {c : EChk} {a : Int} : ∀ {l : List EVal} {last : Int}, setsF c a last l = true → ∀ s ∈ l, valueF c s.2 a = true
  | [], _, _ => fun s h => by cases h
  | x :: r, last, h => by
    unfold setsF at h
    split at h
    · cases h
    · split at h
      · cases h
      · split at h
        · cases h
        · rename_i _ _ hv
          intro s hs
          rcases List.mem_cons.1 hs with rfl | hs
          · simpa using hv
          · exact sets_lo h s hs
theorem makes_lo {c : EChk} {a : Int} : ∀ {l : List EMake} {last : Int}, makesF c a last l = true → ∀ m ∈ l, makeF c m a = true
  | [], _, _ => fun s h => by cases h
  | x :: r, last, h => by
    unfold makesF at h
    split at h
    · cases h
    · split at h
      · cases h
      · rename_i _ hv
        intro s hs
        rcases List.mem_cons.1 hs with rfl | hs
        · simpa using hv
        · exact makes_lo h s hs
theorem right_lo {p : EProg} {t : ETrace} (h : CheckOk p t) {x : EExit} {a : Int} (hx : rightXF (chkOf p t) x a = true) : exitLo x := by
  obtain ⟨_, _, h1, h2⟩ := rightXF_iff.1 hx
  have hn : (chkOf p t).2.2.2.2.1.length ≤ 300 := h.n
  refine ⟨fun s hs => ?_, fun m hm => ?_⟩
  · obtain ⟨q1, _, q2⟩ := valueF_in (sets_lo h1 s hs)
    omega
  · obtain ⟨q1, _, _, _, _, _, _, q8⟩ := makeF_iff.1 (makes_lo h2 m hm)
    obtain ⟨r1, _, r2⟩ := valueF_in q1
    refine ⟨by omega, fun v hv => ?_⟩
    obtain ⟨r1, _, r2⟩ := valueF_in (List.all_eq_true.1 q8 v hv)
    omega
theorem exits_sm {p : EProg} {t : ETrace} (h : CheckOk p t) {i : Nat} (hi : i < t.2.2.2.2.1.length) : exitSm (t.2.2.2.2.1.getD i tExit.dflt) := h.small.2.1.2 _ (getD_mem (α := EExit) (Ty.dflt tExit) hi)
theorem exits_lo {p : EProg} {t : ETrace} (h : CheckOk p t) {i : Nat} (hi : i < t.2.2.2.2.1.length) : exitLo (t.2.2.2.2.1.getD i tExit.dflt) := right_lo h (h.exits _ (getD_mem (α := EExit) (Ty.dflt tExit) hi))
theorem exit_of {c : EChk} {f : EForm} {x : EIns} {a : Int} (h : formedF c f x a = true) : exitOk c f x a = true := by
  unfold formedF tailF tail2F at h
  rw [Bool.and_eq_true, Bool.and_eq_true] at h
  obtain ⟨_, _, h⟩ := h
  revert h
  (repeat' split) <;> intro h <;> first | exact h | cases h
theorem exitOk_lt {c : EChk} {f : EForm} {x : EIns} {a : Int} (h : exitOk c f x a = true) (h0 : 0 ≤ x.2.2.2.2.2.1) : x.2.2.2.2.2.1 < (c.2.2.2.2.2.1.length : Int) := by
  unfold exitOk at h
  revert h
  (repeat' split) <;> intro h <;> first | assumption | (exfalso; omega) | (exfalso; cases h; done) | (have := of_decide_eq_true h; omega)
theorem exit_in {p : EProg} {t : ETrace} (hc : CheckOk p t) {i : Nat} (hi : i < t.2.2.2.1.length) : 0 ≤ (t.2.2.2.1.getD i tIns.dflt).2.2.2.2.2.1 → (t.2.2.2.1.getD i tIns.dflt).2.2.2.2.2.1 < (t.2.2.2.2.1.length : Int) := by
  have ex : t.2.2.2.1[i]? = some (t.2.2.2.1.getD i tIns.dflt) := by rw [List.getD_eq_getElem?_getD, List.getElem?_eq_getElem hi]; rfl
  exact exitOk_lt (c := chkOf p t) (exit_of (hc.ins i _ ex).2)
def twV (n l k v : Int) : Int := if k < l then v + n else v
def twIns (n m : Int) (x : EIns) : EIns := (x.1, twV n (askF x).length 0 x.2.1, twV n (askF x).length 1 x.2.2.1, twV n (askF x).length 2 x.2.2.2.1, x.2.2.2.2.1, (if 0 ≤ x.2.2.2.2.2.1 then x.2.2.2.2.2.1 + m else x.2.2.2.2.2.1), x.2.2.2.2.2.2)
def twF (t : ETrace) : ETrace := (t.1, t.2.1, (t.2.2.2.1.length : Int), t.2.2.2.1 ++ t.2.2.2.1.map (twIns t.2.2.2.1.length t.2.2.2.2.1.length), t.2.2.2.2.1 ++ t.2.2.2.2.1.map (shExit t.2.2.2.1.length), t.2.2.2.2.2.2, shExit t.2.2.2.1.length t.2.2.2.2.2.2)
noncomputable def oc83 : Orc where
  pure := fun f args => match f, args with
    | 18, [a0] => match dA tIns a0 with
      | some x0 => some (.c (.ro tI (askF x0)))
      | _ => none
    | 94, [a0, a1] => match dA tExit a0, dA tI a1 with
      | some x0, some x1 => some (.agg (Ty.enc tExit (shExit x1 x0)))
      | _, _ => none
    | _, _ => none
  heap := fun f args H => match f, args with
    | 52, [a0] => (match dA (.slice tExit) a0 with
        | some x0 => hres [] H (.c (.osl 0 4 x0.length)) [.ovec 27 tExit x0]
        | _ => none)
    | 64, [a0] => (match dA (.slice tIns) a0 with
        | some x0 => hres [] H (.c (.osl 0 8 x0.length)) [.ovec 46 tIns x0]
        | _ => none)
    | _, _ => none
def twice_lv : LV := ⟨(false :: true :: true :: true :: true :: true :: false :: true :: true :: F16 (F8 (F4 (true :: true :: true :: F8 (false :: true :: true :: F16 (F8 (F4 (true :: true :: true :: F8 (F4 (false :: [])))))))))), [12]⟩
abbrev bCx15 : AB := .cells 29 [.int .i64 0, .int .i64 0, .int .i64 0, .nilsl, .nilsl, .int .i64 0, .int .i64 0, .nilsl, .nilsl, .int .i64 0, .int .i64 0, .nilsl, .nilsl]
noncomputable def twice_T (t : ETrace) : Tree :=
  .callH 64 [.c (.ro tIns t.2.2.2.1)] [.cells 29 (Ty.enc tTrace t), bCx15] (.c (.osl 2 8 t.2.2.2.1.length)) [.cells 29 (Ty.enc tTrace t), bCx15, .ovec 46 tIns t.2.2.2.1] [2] <|
  .callH 52 [.c (.ro tExit t.2.2.2.2.1)] [.cells 29 (Ty.enc tTrace t), bCx15, .ovec 46 tIns t.2.2.2.1] (.c (.osl 3 4 t.2.2.2.2.1.length)) [.cells 29 (Ty.enc tTrace t), bCx15, .ovec 46 tIns t.2.2.2.1, .ovec 27 tExit t.2.2.2.2.1] [3] <|
  .call 94 [.agg [.int .i64 t.2.2.2.2.2.2.1, .int .i64 t.2.2.2.2.2.2.2.1, .ro tVal t.2.2.2.2.2.2.2.2.1, .ro tMake t.2.2.2.2.2.2.2.2.2], .c (.int .i64 (t.2.2.2.1.length : Int))] false (.agg [.int .i64 (shExit (t.2.2.2.1.length : Int) t.2.2.2.2.2.2).1, .int .i64 (shExit (t.2.2.2.1.length : Int) t.2.2.2.2.2.2).2.1, .ro tVal (shExit (t.2.2.2.1.length : Int) t.2.2.2.2.2.2).2.2.1, .ro tMake (shExit (t.2.2.2.1.length : Int) t.2.2.2.2.2.2).2.2.2]) <|
  .stop (lp (bodyOf Tryd.f58) 0) (.junk :: .c (.ptr 0 0 0 0) :: .c (.ptr 1 0 0 0) :: .c (.int .i64 (t.2.2.2.1.length : Int)) :: .c (.int .i64 (t.2.2.2.2.1.length : Int)) :: .c (.ptr 4 0 0 0) :: J16 (J8 (J4 (J2 (.junk :: .c (.ro tIns t.2.2.2.1) :: .c (.int .i64 (t.2.2.2.1.length : Int)) :: .c (.int .i64 0) :: J32 (J16 (J4 (J2 (.junk :: []))))))))) [.cells 29 (Ty.enc tTrace t), bCx15, .ovec 46 tIns t.2.2.2.1, .ovec 27 tExit t.2.2.2.2.1, .cells 29 [.int .i64 t.1, .int .i64 t.2.1, .int .i64 (t.2.2.2.1.length : Int), .osl 2 8 t.2.2.2.1.length, .osl 3 4 t.2.2.2.2.1.length, .int .i64 t.2.2.2.2.2.2.1, .int .i64 t.2.2.2.2.2.2.2.1, .ro tVal t.2.2.2.2.2.2.2.2.1, .ro tMake t.2.2.2.2.2.2.2.2.2, .int .i64 (shExit (t.2.2.2.1.length : Int) t.2.2.2.2.2.2).1, .int .i64 (shExit (t.2.2.2.1.length : Int) t.2.2.2.2.2.2).2.1, .ro tVal (shExit (t.2.2.2.1.length : Int) t.2.2.2.2.2.2).2.2.1, .ro tMake (shExit (t.2.2.2.1.length : Int) t.2.2.2.2.2.2).2.2.2]]
theorem twice_T_ok (t : ETrace) : aRun Tryd.prog oc83 Tryd.f58 twice_lv 3000 [.code (bodyOf Tryd.f58)] ([.agg (tTrace.enc t)] ++ List.replicate (Func.ntmps Tryd.f58 - 1) .junk) [] = twice_T t := by kernel_rfl
abbrev bCx2 (t : ETrace) (ins : List EIns) (xs : List EExit) : AB := .cells 29 [.int .i64 t.1, .int .i64 t.2.1, .int .i64 (t.2.2.2.1.length : Int), .osl 1 8 ins.length, .osl 2 4 xs.length, .int .i64 t.2.2.2.2.2.2.1, .int .i64 t.2.2.2.2.2.2.2.1, .ro tVal t.2.2.2.2.2.2.2.2.1, .ro tMake t.2.2.2.2.2.2.2.2.2, .int .i64 (shExit (t.2.2.2.1.length : Int) t.2.2.2.2.2.2).1, .int .i64 (shExit (t.2.2.2.1.length : Int) t.2.2.2.2.2.2).2.1, .ro tVal (shExit (t.2.2.2.1.length : Int) t.2.2.2.2.2.2).2.2.1, .ro tMake (shExit (t.2.2.2.1.length : Int) t.2.2.2.2.2.2).2.2.2]
noncomputable def twice_l2_R (t : ETrace) (k : Nat) (ins : List EIns) (xs : List EExit) : Tree :=
  .ite (decide (((k : Nat) : Int) < (t.2.2.2.2.1.length : Int)))
  (.need ((0 : Int) ≤ ((k : Nat) : Int) ∧ (((k : Nat) : Int) : Int) < (t.2.2.2.2.1.length : Int)) <|
   .need (k < t.2.2.2.2.1.length) <|
   .call 94 [.agg [.int .i64 (t.2.2.2.2.1.getD k tExit.dflt).1, .int .i64 (t.2.2.2.2.1.getD k tExit.dflt).2.1, .ro tVal (t.2.2.2.2.1.getD k tExit.dflt).2.2.1, .ro tMake (t.2.2.2.2.1.getD k tExit.dflt).2.2.2], .c (.int .i64 (t.2.2.2.1.length : Int))] false (.agg [.int .i64 (shExit (t.2.2.2.1.length : Int) (t.2.2.2.2.1.getD k tExit.dflt)).1, .int .i64 (shExit (t.2.2.2.1.length : Int) (t.2.2.2.2.1.getD k tExit.dflt)).2.1, .ro tVal (shExit (t.2.2.2.1.length : Int) (t.2.2.2.2.1.getD k tExit.dflt)).2.2.1, .ro tMake (shExit (t.2.2.2.1.length : Int) (t.2.2.2.2.1.getD k tExit.dflt)).2.2.2]) <|
   .need (xs.length = xs.length) <|
   .need (0 = 0 ∧ 1 = ([(shExit (t.2.2.2.1.length : Int) (t.2.2.2.2.1.getD k tExit.dflt))]).length) <|
   .need ((xs.length + ([(shExit (t.2.2.2.1.length : Int) (t.2.2.2.2.1.getD k tExit.dflt))]).length) * 64 ≤ 140737488355328) <|
   .need (inR .i64 (((k : Nat) : Int) + 1)) <|
   .stop (lp (bodyOf Tryd.f58) 2) (J2 (.c (.ptr 0 0 0 0) :: .c (.int .i64 (t.2.2.2.1.length : Int)) :: .junk :: .c (.ptr 3 0 0 0) :: J32 (J32 (J8 (.junk :: .c (.ro tExit t.2.2.2.2.1) :: .c (.int .i64 (t.2.2.2.2.1.length : Int)) :: .c (.int .i64 (((k : Nat) : Int) + 1)) :: J8 (J4 (.junk :: []))))))) [bCx15, .ovec 46 tIns ins, .dead, .cells 29 [.int .i64 t.1, .int .i64 t.2.1, .int .i64 (t.2.2.2.1.length : Int), .osl 1 8 ins.length, .osl 6 4 (xs ++ [(shExit (t.2.2.2.1.length : Int) (t.2.2.2.2.1.getD k tExit.dflt))]).length, .int .i64 t.2.2.2.2.2.2.1, .int .i64 t.2.2.2.2.2.2.2.1, .ro tVal t.2.2.2.2.2.2.2.2.1, .ro tMake t.2.2.2.2.2.2.2.2.2, .int .i64 (shExit (t.2.2.2.1.length : Int) t.2.2.2.2.2.2).1, .int .i64 (shExit (t.2.2.2.1.length : Int) t.2.2.2.2.2.2).2.1, .ro tVal (shExit (t.2.2.2.1.length : Int) t.2.2.2.2.2.2).2.2.1, .ro tMake (shExit (t.2.2.2.1.length : Int) t.2.2.2.2.2.2).2.2.2], .cells 27 [.int .i64 (t.2.2.2.2.1.getD k tExit.dflt).1, .int .i64 (t.2.2.2.2.1.getD k tExit.dflt).2.1, .ro tVal (t.2.2.2.2.1.getD k tExit.dflt).2.2.1, .ro tMake (t.2.2.2.2.1.getD k tExit.dflt).2.2.2], .vec 27 tExit ([(shExit (t.2.2.2.1.length : Int) (t.2.2.2.2.1.getD k tExit.dflt))]), .ovec 27 tExit (xs ++ [(shExit (t.2.2.2.1.length : Int) (t.2.2.2.2.1.getD k tExit.dflt))])])
  (.ret (.agg [.int .i64 t.1, .int .i64 t.2.1, .int .i64 (t.2.2.2.1.length : Int), .osl 1 8 ins.length, .osl 2 4 xs.length, .int .i64 t.2.2.2.2.2.2.1, .int .i64 t.2.2.2.2.2.2.2.1, .ro tVal t.2.2.2.2.2.2.2.2.1, .ro tMake t.2.2.2.2.2.2.2.2.2, .int .i64 (shExit (t.2.2.2.1.length : Int) t.2.2.2.2.2.2).1, .int .i64 (shExit (t.2.2.2.1.length : Int) t.2.2.2.2.2.2).2.1, .ro tVal (shExit (t.2.2.2.1.length : Int) t.2.2.2.2.2.2).2.2.1, .ro tMake (shExit (t.2.2.2.1.length : Int) t.2.2.2.2.2.2).2.2.2]) [(bCx2 t ins xs), .ovec 46 tIns ins, .ovec 27 tExit xs, (bCx2 t ins xs)])
theorem twice_l2_R_ok (t : ETrace) (k : Nat) (ins : List EIns) (xs : List EExit) : aRound Tryd.prog oc83 Tryd.f58 twice_lv 3000 (lp (bodyOf Tryd.f58) 2) (J2 (.c (.ptr 0 0 0 0) :: .c (.int .i64 (t.2.2.2.1.length : Int)) :: .junk :: .c (.ptr 3 0 0 0) :: J32 (J32 (J8 (.junk :: .c (.ro tExit t.2.2.2.2.1) :: .c (.int .i64 (t.2.2.2.2.1.length : Int)) :: .c (.int .i64 ((k : Nat) : Int)) :: J8 (J4 (.junk :: []))))))) [bCx15, .ovec 46 tIns ins, .ovec 27 tExit xs, (bCx2 t ins xs)] = twice_l2_R t k ins xs := by kernel_rfl
abbrev bCx1 (t : ETrace) (ins : List EIns) : AB := .cells 29 [.int .i64 t.1, .int .i64 t.2.1, .int .i64 (t.2.2.2.1.length : Int), .osl 2 8 ins.length, .osl 3 4 t.2.2.2.2.1.length, .int .i64 t.2.2.2.2.2.2.1, .int .i64 t.2.2.2.2.2.2.2.1, .ro tVal t.2.2.2.2.2.2.2.2.1, .ro tMake t.2.2.2.2.2.2.2.2.2, .int .i64 (shExit (t.2.2.2.1.length : Int) t.2.2.2.2.2.2).1, .int .i64 (shExit (t.2.2.2.1.length : Int) t.2.2.2.2.2.2).2.1, .ro tVal (shExit (t.2.2.2.1.length : Int) t.2.2.2.2.2.2).2.2.1, .ro tMake (shExit (t.2.2.2.1.length : Int) t.2.2.2.2.2.2).2.2.2]
abbrev bCx4 (t : ETrace) (i : Nat) : List AV := (J8 (J4 (.c (.ro tIns t.2.2.2.1) :: .c (.int .i64 (t.2.2.2.1.length : Int)) :: .c (.int .i64 ((i : Nat) : Int)) :: J8 (.junk :: .c (.int .i64 ((askF (t.2.2.2.1.getD i tIns.dflt)).length : Int)) :: .c (.int .i64 0) :: J32 (J8 (J4 ([])))))))
noncomputable def twice_l0_R (t : ETrace) (i : Nat) (ins : List EIns) : Tree :=
  .ite (decide (((i : Nat) : Int) < (t.2.2.2.1.length : Int)))
  (.need ((0 : Int) ≤ ((i : Nat) : Int) ∧ (((i : Nat) : Int) : Int) < (t.2.2.2.1.length : Int)) <|
   .need (i < t.2.2.2.1.length) <|
   .call 18 [.agg [.int .i64 (t.2.2.2.1.getD i tIns.dflt).1, .int .i64 (t.2.2.2.1.getD i tIns.dflt).2.1, .int .i64 (t.2.2.2.1.getD i tIns.dflt).2.2.1, .int .i64 (t.2.2.2.1.getD i tIns.dflt).2.2.2.1, .int .i64 (t.2.2.2.1.getD i tIns.dflt).2.2.2.2.1, .int .i64 (t.2.2.2.1.getD i tIns.dflt).2.2.2.2.2.1, .int .i64 (t.2.2.2.1.getD i tIns.dflt).2.2.2.2.2.2.1, .int .i64 (t.2.2.2.1.getD i tIns.dflt).2.2.2.2.2.2.2]] false (.c (.ro tI (askF (t.2.2.2.1.getD i tIns.dflt)))) <|
   .stop (lp (bodyOf Tryd.f58) 1) (.junk :: .c (.ptr 0 0 0 0) :: .c (.ptr 1 0 0 0) :: .c (.int .i64 (t.2.2.2.1.length : Int)) :: .c (.int .i64 (t.2.2.2.2.1.length : Int)) :: .c (.ptr 4 0 0 0) :: .junk :: .c (.ptr 5 0 0 0) :: .c (.sl 6 1 0 3) :: J16 (bCx4 t i)) [.cells 29 (Ty.enc tTrace t), bCx15, .ovec 46 tIns ins, .ovec 27 tExit t.2.2.2.2.1, (bCx1 t ins), .cells 46 [.int .i64 (t.2.2.2.1.getD i tIns.dflt).1, .int .i64 (t.2.2.2.1.getD i tIns.dflt).2.1, .int .i64 (t.2.2.2.1.getD i tIns.dflt).2.2.1, .int .i64 (t.2.2.2.1.getD i tIns.dflt).2.2.2.1, .int .i64 (t.2.2.2.1.getD i tIns.dflt).2.2.2.2.1, .int .i64 (t.2.2.2.1.getD i tIns.dflt).2.2.2.2.2.1, .int .i64 (t.2.2.2.1.getD i tIns.dflt).2.2.2.2.2.2.1, .int .i64 (t.2.2.2.1.getD i tIns.dflt).2.2.2.2.2.2.2], .cells 101 [.ptr 5 0 0 1, .ptr 5 0 0 2, .ptr 5 0 0 3]])
  (.stop (lp (bodyOf Tryd.f58) 2) (.junk :: .c (.ptr 0 0 0 0) :: .c (.ptr 1 0 0 0) :: .c (.int .i64 (t.2.2.2.1.length : Int)) :: .c (.int .i64 (t.2.2.2.2.1.length : Int)) :: .c (.ptr 4 0 0 0) :: J16 (J8 (J4 (J2 (.junk :: .c (.ro tIns t.2.2.2.1) :: .c (.int .i64 (t.2.2.2.1.length : Int)) :: .c (.int .i64 ((i : Nat) : Int)) :: J32 (J4 (J2 (.junk :: .c (.ro tExit t.2.2.2.2.1) :: .c (.int .i64 (t.2.2.2.2.1.length : Int)) :: .c (.int .i64 0) :: J8 (J4 (.junk :: [])))))))))) [.cells 29 (Ty.enc tTrace t), bCx15, .ovec 46 tIns ins, .ovec 27 tExit t.2.2.2.2.1, (bCx1 t ins)])
theorem twice_l0_R_ok (t : ETrace) (i : Nat) (ins : List EIns) : aRound Tryd.prog oc83 Tryd.f58 twice_lv 3000 (lp (bodyOf Tryd.f58) 0) (.junk :: .c (.ptr 0 0 0 0) :: .c (.ptr 1 0 0 0) :: .c (.int .i64 (t.2.2.2.1.length : Int)) :: .c (.int .i64 (t.2.2.2.2.1.length : Int)) :: .c (.ptr 4 0 0 0) :: J16 (J8 (J4 (J2 (.junk :: .c (.ro tIns t.2.2.2.1) :: .c (.int .i64 (t.2.2.2.1.length : Int)) :: .c (.int .i64 ((i : Nat) : Int)) :: J32 (J16 (J4 (J2 (.junk :: []))))))))) [.cells 29 (Ty.enc tTrace t), bCx15, .ovec 46 tIns ins, .ovec 27 tExit t.2.2.2.2.1, (bCx1 t ins)] = twice_l0_R t i ins := by kernel_rfl
abbrev bCx3 (t : ETrace) (i : Nat) (a0 : Int) (a1 : Int) (a2 : Int) : AB := .cells 46 [.int .i64 (t.2.2.2.1.getD i tIns.dflt).1, .int .i64 a0, .int .i64 a1, .int .i64 a2, .int .i64 (t.2.2.2.1.getD i tIns.dflt).2.2.2.2.1, .int .i64 (t.2.2.2.1.getD i tIns.dflt).2.2.2.2.2.1, .int .i64 (t.2.2.2.1.getD i tIns.dflt).2.2.2.2.2.2.1, .int .i64 (t.2.2.2.1.getD i tIns.dflt).2.2.2.2.2.2.2]
abbrev bCx5 (t : ETrace) (i : Nat) : List AV := (J8 (J4 (.c (.ro tIns t.2.2.2.1) :: .c (.int .i64 (t.2.2.2.1.length : Int)) :: .c (.int .i64 ((i : Nat) : Int)) :: J8 (.junk :: .c (.int .i64 ((askF (t.2.2.2.1.getD i tIns.dflt)).length : Int)) :: .c (.int .i64 3) :: J32 (J8 (J4 ([])))))))
noncomputable def twice_i3_R (t : ETrace) (i : Nat) (ins : List EIns) (a0 : Int) (a1 : Int) (a2 : Int) : Tree :=
  .ite (decide ((3 : Int) < ((askF (t.2.2.2.1.getD i tIns.dflt)).length : Int)))
  (.need ((0 : Int) ≤ 3 ∧ (3 : Int) < ((3 : Nat) : Int)) <|
   .fail 10)
  (.stop (rg (bodyOf Tryd.f58) 12) (.junk :: .c (.ptr 0 0 0 0) :: .c (.ptr 1 0 0 0) :: .c (.int .i64 (t.2.2.2.1.length : Int)) :: .c (.int .i64 (t.2.2.2.2.1.length : Int)) :: .c (.ptr 4 0 0 0) :: .junk :: .c (.ptr 5 0 0 0) :: .c (.sl 6 1 0 3) :: J16 (bCx5 t i)) [.cells 29 (Ty.enc tTrace t), bCx15, .ovec 46 tIns ins, .ovec 27 tExit t.2.2.2.2.1, (bCx1 t ins), (bCx3 t i a0 a1 a2), .cells 101 [.ptr 5 0 0 1, .ptr 5 0 0 2, .ptr 5 0 0 3]])
theorem twice_i3_R_ok (t : ETrace) (i : Nat) (ins : List EIns) (a0 : Int) (a1 : Int) (a2 : Int) : aRound Tryd.prog oc83 Tryd.f58 twice_lv 3000 (lp (bodyOf Tryd.f58) 1) (.junk :: .c (.ptr 0 0 0 0) :: .c (.ptr 1 0 0 0) :: .c (.int .i64 (t.2.2.2.1.length : Int)) :: .c (.int .i64 (t.2.2.2.2.1.length : Int)) :: .c (.ptr 4 0 0 0) :: .junk :: .c (.ptr 5 0 0 0) :: .c (.sl 6 1 0 3) :: J16 (bCx5 t i)) [.cells 29 (Ty.enc tTrace t), bCx15, .ovec 46 tIns ins, .ovec 27 tExit t.2.2.2.2.1, (bCx1 t ins), (bCx3 t i a0 a1 a2), .cells 101 [.ptr 5 0 0 1, .ptr 5 0 0 2, .ptr 5 0 0 3]] = twice_i3_R t i ins a0 a1 a2 := by kernel_rfl
abbrev bCx6 (t : ETrace) (i : Nat) : List AV := (J8 (J4 (.c (.ro tIns t.2.2.2.1) :: .c (.int .i64 (t.2.2.2.1.length : Int)) :: .c (.int .i64 ((i : Nat) : Int)) :: J8 (.junk :: .c (.int .i64 ((askF (t.2.2.2.1.getD i tIns.dflt)).length : Int)) :: .c (.int .i64 2) :: J32 (J8 (J4 ([])))))))
noncomputable def twice_i2_R (t : ETrace) (i : Nat) (ins : List EIns) (a0 : Int) (a1 : Int) (a2 : Int) : Tree :=
  .ite (decide ((2 : Int) < ((askF (t.2.2.2.1.getD i tIns.dflt)).length : Int)))
  (.need ((0 : Int) ≤ 2 ∧ (2 : Int) < ((3 : Nat) : Int)) <|
   .need (inR .i64 (a2 + (t.2.2.2.1.length : Int))) <|
   .need (inR .i64 (2 + 1)) <|
   .stop (lp (bodyOf Tryd.f58) 1) (.junk :: .c (.ptr 0 0 0 0) :: .c (.ptr 1 0 0 0) :: .c (.int .i64 (t.2.2.2.1.length : Int)) :: .c (.int .i64 (t.2.2.2.2.1.length : Int)) :: .c (.ptr 4 0 0 0) :: .junk :: .c (.ptr 5 0 0 0) :: .c (.sl 6 1 0 3) :: J16 (J8 (J4 (.c (.ro tIns t.2.2.2.1) :: .c (.int .i64 (t.2.2.2.1.length : Int)) :: .c (.int .i64 ((i : Nat) : Int)) :: J8 (.junk :: .c (.int .i64 ((askF (t.2.2.2.1.getD i tIns.dflt)).length : Int)) :: .c (.int .i64 (2 + 1)) :: J32 (J8 (J4 ([])))))))) [.cells 29 (Ty.enc tTrace t), bCx15, .ovec 46 tIns ins, .ovec 27 tExit t.2.2.2.2.1, (bCx1 t ins), .cells 46 [.int .i64 (t.2.2.2.1.getD i tIns.dflt).1, .int .i64 a0, .int .i64 a1, .int .i64 (a2 + (t.2.2.2.1.length : Int)), .int .i64 (t.2.2.2.1.getD i tIns.dflt).2.2.2.2.1, .int .i64 (t.2.2.2.1.getD i tIns.dflt).2.2.2.2.2.1, .int .i64 (t.2.2.2.1.getD i tIns.dflt).2.2.2.2.2.2.1, .int .i64 (t.2.2.2.1.getD i tIns.dflt).2.2.2.2.2.2.2], .cells 101 [.ptr 5 0 0 1, .ptr 5 0 0 2, .ptr 5 0 0 3]])
  (.stop (rg (bodyOf Tryd.f58) 12) (.junk :: .c (.ptr 0 0 0 0) :: .c (.ptr 1 0 0 0) :: .c (.int .i64 (t.2.2.2.1.length : Int)) :: .c (.int .i64 (t.2.2.2.2.1.length : Int)) :: .c (.ptr 4 0 0 0) :: .junk :: .c (.ptr 5 0 0 0) :: .c (.sl 6 1 0 3) :: J16 (bCx6 t i)) [.cells 29 (Ty.enc tTrace t), bCx15, .ovec 46 tIns ins, .ovec 27 tExit t.2.2.2.2.1, (bCx1 t ins), (bCx3 t i a0 a1 a2), .cells 101 [.ptr 5 0 0 1, .ptr 5 0 0 2, .ptr 5 0 0 3]])
theorem twice_i2_R_ok (t : ETrace) (i : Nat) (ins : List EIns) (a0 : Int) (a1 : Int) (a2 : Int) : aRound Tryd.prog oc83 Tryd.f58 twice_lv 3000 (lp (bodyOf Tryd.f58) 1) (.junk :: .c (.ptr 0 0 0 0) :: .c (.ptr 1 0 0 0) :: .c (.int .i64 (t.2.2.2.1.length : Int)) :: .c (.int .i64 (t.2.2.2.2.1.length : Int)) :: .c (.ptr 4 0 0 0) :: .junk :: .c (.ptr 5 0 0 0) :: .c (.sl 6 1 0 3) :: J16 (bCx6 t i)) [.cells 29 (Ty.enc tTrace t), bCx15, .ovec 46 tIns ins, .ovec 27 tExit t.2.2.2.2.1, (bCx1 t ins), (bCx3 t i a0 a1 a2), .cells 101 [.ptr 5 0 0 1, .ptr 5 0 0 2, .ptr 5 0 0 3]] = twice_i2_R t i ins a0 a1 a2 := by kernel_rfl
abbrev bCx7 (t : ETrace) (i : Nat) : List AV := (J8 (J4 (.c (.ro tIns t.2.2.2.1) :: .c (.int .i64 (t.2.2.2.1.length : Int)) :: .c (.int .i64 ((i : Nat) : Int)) :: J8 (.junk :: .c (.int .i64 ((askF (t.2.2.2.1.getD i tIns.dflt)).length : Int)) :: .c (.int .i64 1) :: J32 (J8 (J4 ([])))))))
noncomputable def twice_i1_R (t : ETrace) (i : Nat) (ins : List EIns) (a0 : Int) (a1 : Int) (a2 : Int) : Tree :=
  .ite (decide ((1 : Int) < ((askF (t.2.2.2.1.getD i tIns.dflt)).length : Int)))
  (.need ((0 : Int) ≤ 1 ∧ (1 : Int) < ((3 : Nat) : Int)) <|
   .need (inR .i64 (a1 + (t.2.2.2.1.length : Int))) <|
   .need (inR .i64 (1 + 1)) <|
   .stop (lp (bodyOf Tryd.f58) 1) (.junk :: .c (.ptr 0 0 0 0) :: .c (.ptr 1 0 0 0) :: .c (.int .i64 (t.2.2.2.1.length : Int)) :: .c (.int .i64 (t.2.2.2.2.1.length : Int)) :: .c (.ptr 4 0 0 0) :: .junk :: .c (.ptr 5 0 0 0) :: .c (.sl 6 1 0 3) :: J16 (J8 (J4 (.c (.ro tIns t.2.2.2.1) :: .c (.int .i64 (t.2.2.2.1.length : Int)) :: .c (.int .i64 ((i : Nat) : Int)) :: J8 (.junk :: .c (.int .i64 ((askF (t.2.2.2.1.getD i tIns.dflt)).length : Int)) :: .c (.int .i64 (1 + 1)) :: J32 (J8 (J4 ([])))))))) [.cells 29 (Ty.enc tTrace t), bCx15, .ovec 46 tIns ins, .ovec 27 tExit t.2.2.2.2.1, (bCx1 t ins), .cells 46 [.int .i64 (t.2.2.2.1.getD i tIns.dflt).1, .int .i64 a0, .int .i64 (a1 + (t.2.2.2.1.length : Int)), .int .i64 a2, .int .i64 (t.2.2.2.1.getD i tIns.dflt).2.2.2.2.1, .int .i64 (t.2.2.2.1.getD i tIns.dflt).2.2.2.2.2.1, .int .i64 (t.2.2.2.1.getD i tIns.dflt).2.2.2.2.2.2.1, .int .i64 (t.2.2.2.1.getD i tIns.dflt).2.2.2.2.2.2.2], .cells 101 [.ptr 5 0 0 1, .ptr 5 0 0 2, .ptr 5 0 0 3]])
  (.stop (rg (bodyOf Tryd.f58) 12) (.junk :: .c (.ptr 0 0 0 0) :: .c (.ptr 1 0 0 0) :: .c (.int .i64 (t.2.2.2.1.length : Int)) :: .c (.int .i64 (t.2.2.2.2.1.length : Int)) :: .c (.ptr 4 0 0 0) :: .junk :: .c (.ptr 5 0 0 0) :: .c (.sl 6 1 0 3) :: J16 (bCx7 t i)) [.cells 29 (Ty.enc tTrace t), bCx15, .ovec 46 tIns ins, .ovec 27 tExit t.2.2.2.2.1, (bCx1 t ins), (bCx3 t i a0 a1 a2), .cells 101 [.ptr 5 0 0 1, .ptr 5 0 0 2, .ptr 5 0 0 3]])
theorem twice_i1_R_ok (t : ETrace) (i : Nat) (ins : List EIns) (a0 : Int) (a1 : Int) (a2 : Int) : aRound Tryd.prog oc83 Tryd.f58 twice_lv 3000 (lp (bodyOf Tryd.f58) 1) (.junk :: .c (.ptr 0 0 0 0) :: .c (.ptr 1 0 0 0) :: .c (.int .i64 (t.2.2.2.1.length : Int)) :: .c (.int .i64 (t.2.2.2.2.1.length : Int)) :: .c (.ptr 4 0 0 0) :: .junk :: .c (.ptr 5 0 0 0) :: .c (.sl 6 1 0 3) :: J16 (bCx7 t i)) [.cells 29 (Ty.enc tTrace t), bCx15, .ovec 46 tIns ins, .ovec 27 tExit t.2.2.2.2.1, (bCx1 t ins), (bCx3 t i a0 a1 a2), .cells 101 [.ptr 5 0 0 1, .ptr 5 0 0 2, .ptr 5 0 0 3]] = twice_i1_R t i ins a0 a1 a2 := by kernel_rfl
noncomputable def twice_i0_R (t : ETrace) (i : Nat) (ins : List EIns) (a0 : Int) (a1 : Int) (a2 : Int) : Tree :=
  .ite (decide ((0 : Int) < ((askF (t.2.2.2.1.getD i tIns.dflt)).length : Int)))
  (.need ((0 : Int) ≤ 0 ∧ (0 : Int) < ((3 : Nat) : Int)) <|
   .need (inR .i64 (a0 + (t.2.2.2.1.length : Int))) <|
   .need (inR .i64 (0 + 1)) <|
   .stop (lp (bodyOf Tryd.f58) 1) (.junk :: .c (.ptr 0 0 0 0) :: .c (.ptr 1 0 0 0) :: .c (.int .i64 (t.2.2.2.1.length : Int)) :: .c (.int .i64 (t.2.2.2.2.1.length : Int)) :: .c (.ptr 4 0 0 0) :: .junk :: .c (.ptr 5 0 0 0) :: .c (.sl 6 1 0 3) :: J16 (J8 (J4 (.c (.ro tIns t.2.2.2.1) :: .c (.int .i64 (t.2.2.2.1.length : Int)) :: .c (.int .i64 ((i : Nat) : Int)) :: J8 (.junk :: .c (.int .i64 ((askF (t.2.2.2.1.getD i tIns.dflt)).length : Int)) :: .c (.int .i64 (0 + 1)) :: J32 (J8 (J4 ([])))))))) [.cells 29 (Ty.enc tTrace t), bCx15, .ovec 46 tIns ins, .ovec 27 tExit t.2.2.2.2.1, (bCx1 t ins), .cells 46 [.int .i64 (t.2.2.2.1.getD i tIns.dflt).1, .int .i64 (a0 + (t.2.2.2.1.length : Int)), .int .i64 a1, .int .i64 a2, .int .i64 (t.2.2.2.1.getD i tIns.dflt).2.2.2.2.1, .int .i64 (t.2.2.2.1.getD i tIns.dflt).2.2.2.2.2.1, .int .i64 (t.2.2.2.1.getD i tIns.dflt).2.2.2.2.2.2.1, .int .i64 (t.2.2.2.1.getD i tIns.dflt).2.2.2.2.2.2.2], .cells 101 [.ptr 5 0 0 1, .ptr 5 0 0 2, .ptr 5 0 0 3]])
  (.stop (rg (bodyOf Tryd.f58) 12) (.junk :: .c (.ptr 0 0 0 0) :: .c (.ptr 1 0 0 0) :: .c (.int .i64 (t.2.2.2.1.length : Int)) :: .c (.int .i64 (t.2.2.2.2.1.length : Int)) :: .c (.ptr 4 0 0 0) :: .junk :: .c (.ptr 5 0 0 0) :: .c (.sl 6 1 0 3) :: J16 (bCx4 t i)) [.cells 29 (Ty.enc tTrace t), bCx15, .ovec 46 tIns ins, .ovec 27 tExit t.2.2.2.2.1, (bCx1 t ins), (bCx3 t i a0 a1 a2), .cells 101 [.ptr 5 0 0 1, .ptr 5 0 0 2, .ptr 5 0 0 3]])
theorem twice_i0_R_ok (t : ETrace) (i : Nat) (ins : List EIns) (a0 : Int) (a1 : Int) (a2 : Int) : aRound Tryd.prog oc83 Tryd.f58 twice_lv 3000 (lp (bodyOf Tryd.f58) 1) (.junk :: .c (.ptr 0 0 0 0) :: .c (.ptr 1 0 0 0) :: .c (.int .i64 (t.2.2.2.1.length : Int)) :: .c (.int .i64 (t.2.2.2.2.1.length : Int)) :: .c (.ptr 4 0 0 0) :: .junk :: .c (.ptr 5 0 0 0) :: .c (.sl 6 1 0 3) :: J16 (bCx4 t i)) [.cells 29 (Ty.enc tTrace t), bCx15, .ovec 46 tIns ins, .ovec 27 tExit t.2.2.2.2.1, (bCx1 t ins), (bCx3 t i a0 a1 a2), .cells 101 [.ptr 5 0 0 1, .ptr 5 0 0 2, .ptr 5 0 0 3]] = twice_i0_R t i ins a0 a1 a2 := by kernel_rfl
noncomputable def twice_r12_R (t : ETrace) (i : Nat) (ins : List EIns) (a0 : Int) (a1 : Int) (a2 : Int) : Tree :=
  .ite (decide ((0 : Int) ≤ (t.2.2.2.1.getD i tIns.dflt).2.2.2.2.2.1))
  (.need (inR .i64 ((t.2.2.2.1.getD i tIns.dflt).2.2.2.2.2.1 + (t.2.2.2.2.1.length : Int))) <|
   .need (ins.length = ins.length) <|
   .need (0 = 0 ∧ 1 = ([((t.2.2.2.1.getD i tIns.dflt).1, (a0, (a1, (a2, ((t.2.2.2.1.getD i tIns.dflt).2.2.2.2.1, (((t.2.2.2.1.getD i tIns.dflt).2.2.2.2.2.1 + (t.2.2.2.2.1.length : Int)), (t.2.2.2.1.getD i tIns.dflt).2.2.2.2.2.2))))))]).length) <|
   .need ((ins.length + ([((t.2.2.2.1.getD i tIns.dflt).1, (a0, (a1, (a2, ((t.2.2.2.1.getD i tIns.dflt).2.2.2.2.1, (((t.2.2.2.1.getD i tIns.dflt).2.2.2.2.2.1 + (t.2.2.2.2.1.length : Int)), (t.2.2.2.1.getD i tIns.dflt).2.2.2.2.2.2))))))]).length) * 64 ≤ 140737488355328) <|
   .need (inR .i64 (((i : Nat) : Int) + 1)) <|
   .stop (lp (bodyOf Tryd.f58) 0) (.junk :: .c (.ptr 0 0 0 0) :: .c (.ptr 1 0 0 0) :: .c (.int .i64 (t.2.2.2.1.length : Int)) :: .c (.int .i64 (t.2.2.2.2.1.length : Int)) :: .c (.ptr 4 0 0 0) :: .junk :: .c (.ptr 5 0 0 0) :: J16 (J8 (J4 (.junk :: .c (.ro tIns t.2.2.2.1) :: .c (.int .i64 (t.2.2.2.1.length : Int)) :: .c (.int .i64 (((i : Nat) : Int) + 1)) :: J32 (J16 (J4 (J2 (.junk :: [])))))))) [.cells 29 (Ty.enc tTrace t), bCx15, .dead, .ovec 27 tExit t.2.2.2.2.1, .cells 29 [.int .i64 t.1, .int .i64 t.2.1, .int .i64 (t.2.2.2.1.length : Int), .osl 7 8 (ins ++ [((t.2.2.2.1.getD i tIns.dflt).1, (a0, (a1, (a2, ((t.2.2.2.1.getD i tIns.dflt).2.2.2.2.1, (((t.2.2.2.1.getD i tIns.dflt).2.2.2.2.2.1 + (t.2.2.2.2.1.length : Int)), (t.2.2.2.1.getD i tIns.dflt).2.2.2.2.2.2))))))]).length, .osl 3 4 t.2.2.2.2.1.length, .int .i64 t.2.2.2.2.2.2.1, .int .i64 t.2.2.2.2.2.2.2.1, .ro tVal t.2.2.2.2.2.2.2.2.1, .ro tMake t.2.2.2.2.2.2.2.2.2, .int .i64 (shExit (t.2.2.2.1.length : Int) t.2.2.2.2.2.2).1, .int .i64 (shExit (t.2.2.2.1.length : Int) t.2.2.2.2.2.2).2.1, .ro tVal (shExit (t.2.2.2.1.length : Int) t.2.2.2.2.2.2).2.2.1, .ro tMake (shExit (t.2.2.2.1.length : Int) t.2.2.2.2.2.2).2.2.2], .cells 46 [.int .i64 (t.2.2.2.1.getD i tIns.dflt).1, .int .i64 a0, .int .i64 a1, .int .i64 a2, .int .i64 (t.2.2.2.1.getD i tIns.dflt).2.2.2.2.1, .int .i64 ((t.2.2.2.1.getD i tIns.dflt).2.2.2.2.2.1 + (t.2.2.2.2.1.length : Int)), .int .i64 (t.2.2.2.1.getD i tIns.dflt).2.2.2.2.2.2.1, .int .i64 (t.2.2.2.1.getD i tIns.dflt).2.2.2.2.2.2.2], .vec 46 tIns ([((t.2.2.2.1.getD i tIns.dflt).1, (a0, (a1, (a2, ((t.2.2.2.1.getD i tIns.dflt).2.2.2.2.1, (((t.2.2.2.1.getD i tIns.dflt).2.2.2.2.2.1 + (t.2.2.2.2.1.length : Int)), (t.2.2.2.1.getD i tIns.dflt).2.2.2.2.2.2))))))]), .ovec 46 tIns (ins ++ [((t.2.2.2.1.getD i tIns.dflt).1, (a0, (a1, (a2, ((t.2.2.2.1.getD i tIns.dflt).2.2.2.2.1, (((t.2.2.2.1.getD i tIns.dflt).2.2.2.2.2.1 + (t.2.2.2.2.1.length : Int)), (t.2.2.2.1.getD i tIns.dflt).2.2.2.2.2.2))))))])])
  (.need (ins.length = ins.length) <|
   .need (0 = 0 ∧ 1 = ([((t.2.2.2.1.getD i tIns.dflt).1, (a0, (a1, (a2, (t.2.2.2.1.getD i tIns.dflt).2.2.2.2))))]).length) <|
   .need ((ins.length + ([((t.2.2.2.1.getD i tIns.dflt).1, (a0, (a1, (a2, (t.2.2.2.1.getD i tIns.dflt).2.2.2.2))))]).length) * 64 ≤ 140737488355328) <|
   .need (inR .i64 (((i : Nat) : Int) + 1)) <|
   .stop (lp (bodyOf Tryd.f58) 0) (.junk :: .c (.ptr 0 0 0 0) :: .c (.ptr 1 0 0 0) :: .c (.int .i64 (t.2.2.2.1.length : Int)) :: .c (.int .i64 (t.2.2.2.2.1.length : Int)) :: .c (.ptr 4 0 0 0) :: .junk :: .c (.ptr 5 0 0 0) :: J16 (J8 (J4 (.junk :: .c (.ro tIns t.2.2.2.1) :: .c (.int .i64 (t.2.2.2.1.length : Int)) :: .c (.int .i64 (((i : Nat) : Int) + 1)) :: J32 (J16 (J4 (J2 (.junk :: [])))))))) [.cells 29 (Ty.enc tTrace t), bCx15, .dead, .ovec 27 tExit t.2.2.2.2.1, .cells 29 [.int .i64 t.1, .int .i64 t.2.1, .int .i64 (t.2.2.2.1.length : Int), .osl 7 8 (ins ++ [((t.2.2.2.1.getD i tIns.dflt).1, (a0, (a1, (a2, (t.2.2.2.1.getD i tIns.dflt).2.2.2.2))))]).length, .osl 3 4 t.2.2.2.2.1.length, .int .i64 t.2.2.2.2.2.2.1, .int .i64 t.2.2.2.2.2.2.2.1, .ro tVal t.2.2.2.2.2.2.2.2.1, .ro tMake t.2.2.2.2.2.2.2.2.2, .int .i64 (shExit (t.2.2.2.1.length : Int) t.2.2.2.2.2.2).1, .int .i64 (shExit (t.2.2.2.1.length : Int) t.2.2.2.2.2.2).2.1, .ro tVal (shExit (t.2.2.2.1.length : Int) t.2.2.2.2.2.2).2.2.1, .ro tMake (shExit (t.2.2.2.1.length : Int) t.2.2.2.2.2.2).2.2.2], (bCx3 t i a0 a1 a2), .vec 46 tIns ([((t.2.2.2.1.getD i tIns.dflt).1, (a0, (a1, (a2, (t.2.2.2.1.getD i tIns.dflt).2.2.2.2))))]), .ovec 46 tIns (ins ++ [((t.2.2.2.1.getD i tIns.dflt).1, (a0, (a1, (a2, (t.2.2.2.1.getD i tIns.dflt).2.2.2.2))))])])
theorem twice_r12_R_ok (t : ETrace) (i : Nat) (ins : List EIns) (a0 : Int) (a1 : Int) (a2 : Int) : aRound Tryd.prog oc83 Tryd.f58 twice_lv 3000 (rg (bodyOf Tryd.f58) 12) (.junk :: .c (.ptr 0 0 0 0) :: .c (.ptr 1 0 0 0) :: .c (.int .i64 (t.2.2.2.1.length : Int)) :: .c (.int .i64 (t.2.2.2.2.1.length : Int)) :: .c (.ptr 4 0 0 0) :: .junk :: .c (.ptr 5 0 0 0) :: J16 (J8 (J4 (.junk :: .c (.ro tIns t.2.2.2.1) :: .c (.int .i64 (t.2.2.2.1.length : Int)) :: .c (.int .i64 ((i : Nat) : Int)) :: J32 (J16 (J4 (J2 (.junk :: [])))))))) [.cells 29 (Ty.enc tTrace t), bCx15, .ovec 46 tIns ins, .ovec 27 tExit t.2.2.2.2.1, (bCx1 t ins), (bCx3 t i a0 a1 a2)] = twice_r12_R t i ins a0 a1 a2 := by kernel_rfl
theorem twice_l2 (t : ETrace) (k : Nat) (ins : List EIns) (xs : List EExit) (p : EProg) (hc : CheckOk p t) (hx : xs.length ≤ t.2.2.2.2.1.length + k) : Run Tryd.prog 58 (retQ Tryd.prog (.agg (Ty.enc tTrace ((t.1, t.2.1, (t.2.2.2.1.length : Int), ins, xs ++ (t.2.2.2.2.1.drop k).map (shExit (t.2.2.2.1.length : Int)), t.2.2.2.2.2.2, shExit (t.2.2.2.1.length : Int) t.2.2.2.2.2.2))))) (lp (bodyOf Tryd.f58) 2) (J2 (.c (.ptr 0 0 0 0) :: .c (.int .i64 (t.2.2.2.1.length : Int)) :: .junk :: .c (.ptr 3 0 0 0) :: J32 (J32 (J8 (.junk :: .c (.ro tExit t.2.2.2.2.1) :: .c (.int .i64 (t.2.2.2.2.1.length : Int)) :: .c (.int .i64 ((k : Nat) : Int)) :: J8 (J4 (.junk :: []))))))) [bCx15, .ovec 46 tIns ins, .ovec 27 tExit xs, (bCx2 t ins xs)] :=
  Run.roundA oc83 twice_lv 3000 Tryd.func58 mixed (twice_l2_R t k ins xs) (twice_l2_R_ok t k ins xs) (by
    unfold twice_l2_R
    refine g_iteD (fun h0 => ?_) (fun h0 => ?_)
    · refine g_need (by omega) ?_
      refine g_need (by omega) ?_
      refine g_call (moved_fun (t.2.2.2.2.1.getD k tExit.dflt) (t.2.2.2.1.length : Int) (by first | exact exits_sm hc (by omega) | exact (hc.small).2.2.2) (by first | exact exits_lo hc (by omega) | exact right_lo hc hc.back.2) (by have := hc.n; omega)) (fun h => nomatch h) ?_
      refine g_need (rfl) ?_
      refine g_need (⟨rfl, rfl⟩) ?_
      refine g_need (by first | omega | (have := hc.n; have := hc.m; (try simp only [List.length_cons, List.length_nil]); first | omega | (rw [i64_iff]; omega)) | (constructor <;> omega) | rfl | (simp; done) | (have := exit_in hc hi; have := hc.m; rw [i64_iff]; omega)) ?_
      refine g_need (by first | omega | (have := hc.n; have := hc.m; (try simp only [List.length_cons, List.length_nil]); first | omega | (rw [i64_iff]; omega)) | (constructor <;> omega) | rfl | (simp; done) | (have := exit_in hc hi; have := hc.m; rw [i64_iff]; omega)) ?_
      refine g_stop (RunN.keep [0, 1, 6, 3] (F2 (true :: true :: false :: true :: F32 (F32 (F8 (false :: true :: true :: true :: F8 (F4 (false :: []))))))) n0 (by decide) rfl rfl ?_)
      have ht := twice_l2 t (k + 1) ins (xs ++ [(shExit (t.2.2.2.1.length : Int) (t.2.2.2.2.1.getD k tExit.dflt))]) p hc (by simp; omega); rw [dropCons (α := EExit) (Ty.dflt tExit) (by omega : k < t.2.2.2.2.1.length), List.map_cons, List.append_cons]; exact ht
    · refine g_rq ?_
      refine g_need (rfl) ?_
      refine g_need (rfl) ?_
      exact g_rl (⟨⟨rfl, (show (t.1 : Int) = (t.1, t.2.1, (t.2.2.2.1.length : Int), ins, xs ++ (t.2.2.2.2.1.drop k).map (shExit (t.2.2.2.1.length : Int)), t.2.2.2.2.2.2, shExit (t.2.2.2.1.length : Int) t.2.2.2.2.2.2).1 from by first | rfl | (rw [List.drop_eq_nil_of_le (by omega), List.map_nil, List.append_nil]))⟩, ⟨rfl, (show (t.2.1 : Int) = (t.1, t.2.1, (t.2.2.2.1.length : Int), ins, xs ++ (t.2.2.2.2.1.drop k).map (shExit (t.2.2.2.1.length : Int)), t.2.2.2.2.2.2, shExit (t.2.2.2.1.length : Int) t.2.2.2.2.2.2).2.1 from by first | rfl | (rw [List.drop_eq_nil_of_le (by omega), List.map_nil, List.append_nil]))⟩, ⟨rfl, (show ((t.2.2.2.1.length : Int) : Int) = (t.1, t.2.1, (t.2.2.2.1.length : Int), ins, xs ++ (t.2.2.2.2.1.drop k).map (shExit (t.2.2.2.1.length : Int)), t.2.2.2.2.2.2, shExit (t.2.2.2.1.length : Int) t.2.2.2.2.2.2).2.2.1 from by first | rfl | (rw [List.drop_eq_nil_of_le (by omega), List.map_nil, List.append_nil]))⟩, ⟨rfl, (show (ins) = (t.1, t.2.1, (t.2.2.2.1.length : Int), ins, xs ++ (t.2.2.2.2.1.drop k).map (shExit (t.2.2.2.1.length : Int)), t.2.2.2.2.2.2, shExit (t.2.2.2.1.length : Int) t.2.2.2.2.2.2).2.2.2.1 from by first | rfl | (rw [List.drop_eq_nil_of_le (by omega), List.map_nil, List.append_nil]))⟩, ⟨rfl, (show (xs) = (t.1, t.2.1, (t.2.2.2.1.length : Int), ins, xs ++ (t.2.2.2.2.1.drop k).map (shExit (t.2.2.2.1.length : Int)), t.2.2.2.2.2.2, shExit (t.2.2.2.1.length : Int) t.2.2.2.2.2.2).2.2.2.2.1 from by first | rfl | (rw [List.drop_eq_nil_of_le (by omega), List.map_nil, List.append_nil]))⟩, ⟨rfl, (show (t.2.2.2.2.2.2.1 : Int) = (t.1, t.2.1, (t.2.2.2.1.length : Int), ins, xs ++ (t.2.2.2.2.1.drop k).map (shExit (t.2.2.2.1.length : Int)), t.2.2.2.2.2.2, shExit (t.2.2.2.1.length : Int) t.2.2.2.2.2.2).2.2.2.2.2.1.1 from by first | rfl | (rw [List.drop_eq_nil_of_le (by omega), List.map_nil, List.append_nil]))⟩, ⟨rfl, (show (t.2.2.2.2.2.2.2.1 : Int) = (t.1, t.2.1, (t.2.2.2.1.length : Int), ins, xs ++ (t.2.2.2.2.1.drop k).map (shExit (t.2.2.2.1.length : Int)), t.2.2.2.2.2.2, shExit (t.2.2.2.1.length : Int) t.2.2.2.2.2.2).2.2.2.2.2.1.2.1 from by first | rfl | (rw [List.drop_eq_nil_of_le (by omega), List.map_nil, List.append_nil]))⟩, ⟨rfl, (show (t.2.2.2.2.2.2.2.2.1) = (t.1, t.2.1, (t.2.2.2.1.length : Int), ins, xs ++ (t.2.2.2.2.1.drop k).map (shExit (t.2.2.2.1.length : Int)), t.2.2.2.2.2.2, shExit (t.2.2.2.1.length : Int) t.2.2.2.2.2.2).2.2.2.2.2.1.2.2.1 from by first | rfl | (rw [List.drop_eq_nil_of_le (by omega), List.map_nil, List.append_nil]))⟩, ⟨rfl, (show (t.2.2.2.2.2.2.2.2.2) = (t.1, t.2.1, (t.2.2.2.1.length : Int), ins, xs ++ (t.2.2.2.2.1.drop k).map (shExit (t.2.2.2.1.length : Int)), t.2.2.2.2.2.2, shExit (t.2.2.2.1.length : Int) t.2.2.2.2.2.2).2.2.2.2.2.1.2.2.2 from by first | rfl | (rw [List.drop_eq_nil_of_le (by omega), List.map_nil, List.append_nil]))⟩, ⟨rfl, (show ((shExit (t.2.2.2.1.length : Int) t.2.2.2.2.2.2).1 : Int) = (t.1, t.2.1, (t.2.2.2.1.length : Int), ins, xs ++ (t.2.2.2.2.1.drop k).map (shExit (t.2.2.2.1.length : Int)), t.2.2.2.2.2.2, shExit (t.2.2.2.1.length : Int) t.2.2.2.2.2.2).2.2.2.2.2.2.1 from by first | rfl | (rw [List.drop_eq_nil_of_le (by omega), List.map_nil, List.append_nil]))⟩, ⟨rfl, (show ((shExit (t.2.2.2.1.length : Int) t.2.2.2.2.2.2).2.1 : Int) = (t.1, t.2.1, (t.2.2.2.1.length : Int), ins, xs ++ (t.2.2.2.2.1.drop k).map (shExit (t.2.2.2.1.length : Int)), t.2.2.2.2.2.2, shExit (t.2.2.2.1.length : Int) t.2.2.2.2.2.2).2.2.2.2.2.2.2.1 from by first | rfl | (rw [List.drop_eq_nil_of_le (by omega), List.map_nil, List.append_nil]))⟩, ⟨rfl, (show ((shExit (t.2.2.2.1.length : Int) t.2.2.2.2.2.2).2.2.1) = (t.1, t.2.1, (t.2.2.2.1.length : Int), ins, xs ++ (t.2.2.2.2.1.drop k).map (shExit (t.2.2.2.1.length : Int)), t.2.2.2.2.2.2, shExit (t.2.2.2.1.length : Int) t.2.2.2.2.2.2).2.2.2.2.2.2.2.2.1 from by first | rfl | (rw [List.drop_eq_nil_of_le (by omega), List.map_nil, List.append_nil]))⟩, ⟨rfl, (show ((shExit (t.2.2.2.1.length : Int) t.2.2.2.2.2.2).2.2.2) = (t.1, t.2.1, (t.2.2.2.1.length : Int), ins, xs ++ (t.2.2.2.2.1.drop k).map (shExit (t.2.2.2.1.length : Int)), t.2.2.2.2.2.2, shExit (t.2.2.2.1.length : Int) t.2.2.2.2.2.2).2.2.2.2.2.2.2.2.2 from by first | rfl | (rw [List.drop_eq_nil_of_le (by omega), List.map_nil, List.append_nil]))⟩, trivial⟩) rfl
    )
  termination_by t.2.2.2.2.1.length - k
  decreasing_by all_goals omega
abbrev bCx0 (t : ETrace) (ins' : List EIns) : AB := .cells 29 [.int .i64 t.1, .int .i64 t.2.1, .int .i64 (t.2.2.2.1.length : Int), .osl 2 8 ins'.length, .osl 3 4 t.2.2.2.2.1.length, .int .i64 t.2.2.2.2.2.2.1, .int .i64 t.2.2.2.2.2.2.2.1, .ro tVal t.2.2.2.2.2.2.2.2.1, .ro tMake t.2.2.2.2.2.2.2.2.2, .int .i64 (shExit (t.2.2.2.1.length : Int) t.2.2.2.2.2.2).1, .int .i64 (shExit (t.2.2.2.1.length : Int) t.2.2.2.2.2.2).2.1, .ro tVal (shExit (t.2.2.2.1.length : Int) t.2.2.2.2.2.2).2.2.1, .ro tMake (shExit (t.2.2.2.1.length : Int) t.2.2.2.2.2.2).2.2.2]
abbrev bCx12 (t : ETrace) (i : Nat) : List AV := (J8 (J4 (J2 (.junk :: .c (.ro tIns t.2.2.2.1) :: .c (.int .i64 (t.2.2.2.1.length : Int)) :: .c (.int .i64 (((i + 1) : Nat) : Int)) :: J32 (J16 (J4 (J2 (.junk :: []))))))))
theorem twice_r12 (t : ETrace) (i : Nat) (ins : List EIns) (a0 : Int) (a1 : Int) (a2 : Int) (p : EProg) (hc : CheckOk p t) (hi : i < t.2.2.2.1.length) (hx : ins.length ≤ t.2.2.2.1.length + i) (hn' : ∀ (ins' : List EIns), ins'.length ≤ t.2.2.2.1.length + (i + 1) → Run Tryd.prog 58 (retQ Tryd.prog (.agg (Ty.enc tTrace ((t.1, t.2.1, (t.2.2.2.1.length : Int), ins' ++ (t.2.2.2.1.drop (i + 1)).map (twIns (t.2.2.2.1.length : Int) (t.2.2.2.2.1.length : Int)), t.2.2.2.2.1 ++ t.2.2.2.2.1.map (shExit (t.2.2.2.1.length : Int)), t.2.2.2.2.2.2, shExit (t.2.2.2.1.length : Int) t.2.2.2.2.2.2))))) (lp (bodyOf Tryd.f58) 0) (.junk :: .c (.ptr 0 0 0 0) :: .c (.ptr 1 0 0 0) :: .c (.int .i64 (t.2.2.2.1.length : Int)) :: .c (.int .i64 (t.2.2.2.2.1.length : Int)) :: .c (.ptr 4 0 0 0) :: J16 (bCx12 t i)) [.cells 29 (Ty.enc tTrace t), bCx15, .ovec 46 tIns ins', .ovec 27 tExit t.2.2.2.2.1, (bCx0 t ins')])  : Run Tryd.prog 58 (retQ Tryd.prog (.agg (Ty.enc tTrace ((t.1, t.2.1, (t.2.2.2.1.length : Int), ins ++ ((t.2.2.2.1.getD i tIns.dflt).1, a0, a1, a2, (t.2.2.2.1.getD i tIns.dflt).2.2.2.2.1, (if 0 ≤ (t.2.2.2.1.getD i tIns.dflt).2.2.2.2.2.1 then (t.2.2.2.1.getD i tIns.dflt).2.2.2.2.2.1 + (t.2.2.2.2.1.length : Int) else (t.2.2.2.1.getD i tIns.dflt).2.2.2.2.2.1), (t.2.2.2.1.getD i tIns.dflt).2.2.2.2.2.2) :: (t.2.2.2.1.drop (i + 1)).map (twIns (t.2.2.2.1.length : Int) (t.2.2.2.2.1.length : Int)), t.2.2.2.2.1 ++ t.2.2.2.2.1.map (shExit (t.2.2.2.1.length : Int)), t.2.2.2.2.2.2, shExit (t.2.2.2.1.length : Int) t.2.2.2.2.2.2))))) (rg (bodyOf Tryd.f58) 12) (.junk :: .c (.ptr 0 0 0 0) :: .c (.ptr 1 0 0 0) :: .c (.int .i64 (t.2.2.2.1.length : Int)) :: .c (.int .i64 (t.2.2.2.2.1.length : Int)) :: .c (.ptr 4 0 0 0) :: .junk :: .c (.ptr 5 0 0 0) :: J16 (J8 (J4 (.junk :: .c (.ro tIns t.2.2.2.1) :: .c (.int .i64 (t.2.2.2.1.length : Int)) :: .c (.int .i64 ((i : Nat) : Int)) :: J32 (J16 (J4 (J2 (.junk :: [])))))))) [.cells 29 (Ty.enc tTrace t), bCx15, .ovec 46 tIns ins, .ovec 27 tExit t.2.2.2.2.1, (bCx1 t ins), (bCx3 t i a0 a1 a2)] :=
  Run.roundA oc83 twice_lv 3000 Tryd.func58 mixed (twice_r12_R t i ins a0 a1 a2) (twice_r12_R_ok t i ins a0 a1 a2) (by
    unfold twice_r12_R
    refine g_iteD (fun h0 => ?_) (fun h0 => ?_)
    · refine g_need (by first | omega | (have := hc.n; have := hc.m; (try simp only [List.length_cons, List.length_nil]); first | omega | (rw [i64_iff]; omega)) | (constructor <;> omega) | rfl | (simp; done) | (have := exit_in hc hi; have := hc.m; rw [i64_iff]; omega)) ?_
      refine g_need (rfl) ?_
      refine g_need (⟨rfl, rfl⟩) ?_
      refine g_need (by first | omega | (have := hc.n; have := hc.m; (try simp only [List.length_cons, List.length_nil]); first | omega | (rw [i64_iff]; omega)) | (constructor <;> omega) | rfl | (simp; done) | (have := exit_in hc hi; have := hc.m; rw [i64_iff]; omega)) ?_
      refine g_need (by first | omega | (have := hc.n; have := hc.m; (try simp only [List.length_cons, List.length_nil]); first | omega | (rw [i64_iff]; omega)) | (constructor <;> omega) | rfl | (simp; done) | (have := exit_in hc hi; have := hc.m; rw [i64_iff]; omega)) ?_
      refine g_stop (RunN.keep [0, 1, 7, 3, 4] (false :: true :: true :: true :: true :: true :: F16 (F8 (F4 (F2 (false :: true :: true :: true :: F32 (F16 (F4 (F2 (false :: []))))))))) n0 (by decide) rfl rfl ?_)
      have ht := hn' (ins ++ [((t.2.2.2.1.getD i tIns.dflt).1, (a0, (a1, (a2, ((t.2.2.2.1.getD i tIns.dflt).2.2.2.2.1, (((t.2.2.2.1.getD i tIns.dflt).2.2.2.2.2.1 + (t.2.2.2.2.1.length : Int)), (t.2.2.2.1.getD i tIns.dflt).2.2.2.2.2.2))))))]) (by simp; omega); rw [List.append_assoc, List.singleton_append] at ht; (first | rw [if_pos h0] | rw [if_neg h0]); exact ht
    · refine g_need (rfl) ?_
      refine g_need (⟨rfl, rfl⟩) ?_
      refine g_need (by first | omega | (have := hc.n; have := hc.m; (try simp only [List.length_cons, List.length_nil]); first | omega | (rw [i64_iff]; omega)) | (constructor <;> omega) | rfl | (simp; done) | (have := exit_in hc hi; have := hc.m; rw [i64_iff]; omega)) ?_
      refine g_need (by first | omega | (have := hc.n; have := hc.m; (try simp only [List.length_cons, List.length_nil]); first | omega | (rw [i64_iff]; omega)) | (constructor <;> omega) | rfl | (simp; done) | (have := exit_in hc hi; have := hc.m; rw [i64_iff]; omega)) ?_
      refine g_stop (RunN.keep [0, 1, 7, 3, 4] (false :: true :: true :: true :: true :: true :: F16 (F8 (F4 (F2 (false :: true :: true :: true :: F32 (F16 (F4 (F2 (false :: []))))))))) n0 (by decide) rfl rfl ?_)
      have ht := hn' (ins ++ [((t.2.2.2.1.getD i tIns.dflt).1, (a0, (a1, (a2, (t.2.2.2.1.getD i tIns.dflt).2.2.2.2))))]) (by simp; omega); rw [List.append_assoc, List.singleton_append] at ht; (first | rw [if_pos h0] | rw [if_neg h0]); exact ht
    )
theorem twice_i3 (t : ETrace) (i : Nat) (ins : List EIns) (a0 : Int) (a1 : Int) (a2 : Int) (p : EProg) (hc : CheckOk p t) (hi : i < t.2.2.2.1.length) (hx : ins.length ≤ t.2.2.2.1.length + i) (hn' : ∀ (ins' : List EIns), ins'.length ≤ t.2.2.2.1.length + (i + 1) → Run Tryd.prog 58 (retQ Tryd.prog (.agg (Ty.enc tTrace ((t.1, t.2.1, (t.2.2.2.1.length : Int), ins' ++ (t.2.2.2.1.drop (i + 1)).map (twIns (t.2.2.2.1.length : Int) (t.2.2.2.2.1.length : Int)), t.2.2.2.2.1 ++ t.2.2.2.2.1.map (shExit (t.2.2.2.1.length : Int)), t.2.2.2.2.2.2, shExit (t.2.2.2.1.length : Int) t.2.2.2.2.2.2))))) (lp (bodyOf Tryd.f58) 0) (.junk :: .c (.ptr 0 0 0 0) :: .c (.ptr 1 0 0 0) :: .c (.int .i64 (t.2.2.2.1.length : Int)) :: .c (.int .i64 (t.2.2.2.2.1.length : Int)) :: .c (.ptr 4 0 0 0) :: J16 (bCx12 t i)) [.cells 29 (Ty.enc tTrace t), bCx15, .ovec 46 tIns ins', .ovec 27 tExit t.2.2.2.2.1, (bCx0 t ins')])  : Run Tryd.prog 58 (retQ Tryd.prog (.agg (Ty.enc tTrace ((t.1, t.2.1, (t.2.2.2.1.length : Int), ins ++ ((t.2.2.2.1.getD i tIns.dflt).1, a0, a1, a2, (t.2.2.2.1.getD i tIns.dflt).2.2.2.2.1, (if 0 ≤ (t.2.2.2.1.getD i tIns.dflt).2.2.2.2.2.1 then (t.2.2.2.1.getD i tIns.dflt).2.2.2.2.2.1 + (t.2.2.2.2.1.length : Int) else (t.2.2.2.1.getD i tIns.dflt).2.2.2.2.2.1), (t.2.2.2.1.getD i tIns.dflt).2.2.2.2.2.2) :: (t.2.2.2.1.drop (i + 1)).map (twIns (t.2.2.2.1.length : Int) (t.2.2.2.2.1.length : Int)), t.2.2.2.2.1 ++ t.2.2.2.2.1.map (shExit (t.2.2.2.1.length : Int)), t.2.2.2.2.2.2, shExit (t.2.2.2.1.length : Int) t.2.2.2.2.2.2))))) (lp (bodyOf Tryd.f58) 1) (.junk :: .c (.ptr 0 0 0 0) :: .c (.ptr 1 0 0 0) :: .c (.int .i64 (t.2.2.2.1.length : Int)) :: .c (.int .i64 (t.2.2.2.2.1.length : Int)) :: .c (.ptr 4 0 0 0) :: .junk :: .c (.ptr 5 0 0 0) :: .c (.sl 6 1 0 3) :: J16 (bCx5 t i)) [.cells 29 (Ty.enc tTrace t), bCx15, .ovec 46 tIns ins, .ovec 27 tExit t.2.2.2.2.1, (bCx1 t ins), (bCx3 t i a0 a1 a2), .cells 101 [.ptr 5 0 0 1, .ptr 5 0 0 2, .ptr 5 0 0 3]] :=
  Run.roundA oc83 twice_lv 3000 Tryd.func58 mixed (twice_i3_R t i ins a0 a1 a2) (twice_i3_R_ok t i ins a0 a1 a2) (by
    unfold twice_i3_R
    have hA := askF_le (t.2.2.2.1.getD i tIns.dflt)
    refine g_iteD (fun h0 => ?_) (fun h0 => ?_)
    · refine g_need (by omega) ?_
      exact (show False from by first | omega | (have := hc.n; have := hc.m; (try simp only [List.length_cons, List.length_nil]); first | omega | (rw [i64_iff]; omega)) | (constructor <;> omega) | rfl | (simp; done) | (have := exit_in hc hi; have := hc.m; rw [i64_iff]; omega))
    · refine g_stop (RunN.keep [0, 1, 2, 3, 4, 5] (false :: true :: true :: true :: true :: true :: false :: true :: F16 (F8 (F4 (false :: true :: true :: true :: F32 (F16 (F4 (F2 (false :: [])))))))) n0 (by decide) rfl rfl ?_)
      have ht := twice_r12 t i ins a0 a1 a2 p hc hi hx hn'; exact ht
    )
theorem twice_i2 (t : ETrace) (i : Nat) (ins : List EIns) (a0 : Int) (a1 : Int) (a2 : Int) (p : EProg) (hc : CheckOk p t) (hi : i < t.2.2.2.1.length) (hx : ins.length ≤ t.2.2.2.1.length + i) (hn' : ∀ (ins' : List EIns), ins'.length ≤ t.2.2.2.1.length + (i + 1) → Run Tryd.prog 58 (retQ Tryd.prog (.agg (Ty.enc tTrace ((t.1, t.2.1, (t.2.2.2.1.length : Int), ins' ++ (t.2.2.2.1.drop (i + 1)).map (twIns (t.2.2.2.1.length : Int) (t.2.2.2.2.1.length : Int)), t.2.2.2.2.1 ++ t.2.2.2.2.1.map (shExit (t.2.2.2.1.length : Int)), t.2.2.2.2.2.2, shExit (t.2.2.2.1.length : Int) t.2.2.2.2.2.2))))) (lp (bodyOf Tryd.f58) 0) (.junk :: .c (.ptr 0 0 0 0) :: .c (.ptr 1 0 0 0) :: .c (.int .i64 (t.2.2.2.1.length : Int)) :: .c (.int .i64 (t.2.2.2.2.1.length : Int)) :: .c (.ptr 4 0 0 0) :: J16 (bCx12 t i)) [.cells 29 (Ty.enc tTrace t), bCx15, .ovec 46 tIns ins', .ovec 27 tExit t.2.2.2.2.1, (bCx0 t ins')]) (hb2 : (2 : Int) < ((askF (t.2.2.2.1.getD i tIns.dflt)).length : Int) → 0 ≤ a2 ∧ a2 < (i : Int))  : Run Tryd.prog 58 (retQ Tryd.prog (.agg (Ty.enc tTrace ((t.1, t.2.1, (t.2.2.2.1.length : Int), ins ++ ((t.2.2.2.1.getD i tIns.dflt).1, a0, a1, twV (t.2.2.2.1.length : Int) ((askF (t.2.2.2.1.getD i tIns.dflt)).length : Int) 2 a2, (t.2.2.2.1.getD i tIns.dflt).2.2.2.2.1, (if 0 ≤ (t.2.2.2.1.getD i tIns.dflt).2.2.2.2.2.1 then (t.2.2.2.1.getD i tIns.dflt).2.2.2.2.2.1 + (t.2.2.2.2.1.length : Int) else (t.2.2.2.1.getD i tIns.dflt).2.2.2.2.2.1), (t.2.2.2.1.getD i tIns.dflt).2.2.2.2.2.2) :: (t.2.2.2.1.drop (i + 1)).map (twIns (t.2.2.2.1.length : Int) (t.2.2.2.2.1.length : Int)), t.2.2.2.2.1 ++ t.2.2.2.2.1.map (shExit (t.2.2.2.1.length : Int)), t.2.2.2.2.2.2, shExit (t.2.2.2.1.length : Int) t.2.2.2.2.2.2))))) (lp (bodyOf Tryd.f58) 1) (.junk :: .c (.ptr 0 0 0 0) :: .c (.ptr 1 0 0 0) :: .c (.int .i64 (t.2.2.2.1.length : Int)) :: .c (.int .i64 (t.2.2.2.2.1.length : Int)) :: .c (.ptr 4 0 0 0) :: .junk :: .c (.ptr 5 0 0 0) :: .c (.sl 6 1 0 3) :: J16 (bCx6 t i)) [.cells 29 (Ty.enc tTrace t), bCx15, .ovec 46 tIns ins, .ovec 27 tExit t.2.2.2.2.1, (bCx1 t ins), (bCx3 t i a0 a1 a2), .cells 101 [.ptr 5 0 0 1, .ptr 5 0 0 2, .ptr 5 0 0 3]] :=
  Run.roundA oc83 twice_lv 3000 Tryd.func58 mixed (twice_i2_R t i ins a0 a1 a2) (twice_i2_R_ok t i ins a0 a1 a2) (by
    unfold twice_i2_R
    have hA := askF_le (t.2.2.2.1.getD i tIns.dflt)
    refine g_iteD (fun h0 => ?_) (fun h0 => ?_)
    · refine g_need (by omega) ?_
      refine g_need (by first | omega | (have := hb2 (by omega); have := hc.n; first | omega | (rw [i64_iff]; omega)) | (constructor <;> first | omega) | (rw [i64_iff]; omega)) ?_
      refine g_need (by first | omega | (have := hb2 (by omega); have := hc.n; first | omega | (rw [i64_iff]; omega)) | (constructor <;> first | omega) | (rw [i64_iff]; omega)) ?_
      refine g_stop (RunN.keep [0, 1, 2, 3, 4, 5, 6] (false :: true :: true :: true :: true :: true :: false :: true :: true :: F16 (F8 (F4 (true :: true :: true :: F8 (false :: true :: true :: F32 (F8 (F4 ([])))))))) n0 (by decide) rfl rfl ?_)
      have ht := twice_i3 t i ins a0 a1 (a2 + (t.2.2.2.1.length : Int)) p hc hi hx hn' ; have e1 : twV (t.2.2.2.1.length : Int) ((askF (t.2.2.2.1.getD i tIns.dflt)).length : Int) 2 a2 = a2 + (t.2.2.2.1.length : Int) := if_pos (by omega); rw [e1]; exact ht
    · refine g_stop (RunN.keep [0, 1, 2, 3, 4, 5] (false :: true :: true :: true :: true :: true :: false :: true :: F16 (F8 (F4 (false :: true :: true :: true :: F32 (F16 (F4 (F2 (false :: [])))))))) n0 (by decide) rfl rfl ?_)
      have ht := twice_r12 t i ins a0 a1 a2 p hc hi hx hn'; have e2 : twV (t.2.2.2.1.length : Int) ((askF (t.2.2.2.1.getD i tIns.dflt)).length : Int) 2 a2 = a2 := if_neg (by omega); rw [e2]; exact ht
    )
theorem twice_i1 (t : ETrace) (i : Nat) (ins : List EIns) (a0 : Int) (a1 : Int) (a2 : Int) (p : EProg) (hc : CheckOk p t) (hi : i < t.2.2.2.1.length) (hx : ins.length ≤ t.2.2.2.1.length + i) (hn' : ∀ (ins' : List EIns), ins'.length ≤ t.2.2.2.1.length + (i + 1) → Run Tryd.prog 58 (retQ Tryd.prog (.agg (Ty.enc tTrace ((t.1, t.2.1, (t.2.2.2.1.length : Int), ins' ++ (t.2.2.2.1.drop (i + 1)).map (twIns (t.2.2.2.1.length : Int) (t.2.2.2.2.1.length : Int)), t.2.2.2.2.1 ++ t.2.2.2.2.1.map (shExit (t.2.2.2.1.length : Int)), t.2.2.2.2.2.2, shExit (t.2.2.2.1.length : Int) t.2.2.2.2.2.2))))) (lp (bodyOf Tryd.f58) 0) (.junk :: .c (.ptr 0 0 0 0) :: .c (.ptr 1 0 0 0) :: .c (.int .i64 (t.2.2.2.1.length : Int)) :: .c (.int .i64 (t.2.2.2.2.1.length : Int)) :: .c (.ptr 4 0 0 0) :: J16 (bCx12 t i)) [.cells 29 (Ty.enc tTrace t), bCx15, .ovec 46 tIns ins', .ovec 27 tExit t.2.2.2.2.1, (bCx0 t ins')]) (hb1 : (1 : Int) < ((askF (t.2.2.2.1.getD i tIns.dflt)).length : Int) → 0 ≤ a1 ∧ a1 < (i : Int)) (hb2 : (2 : Int) < ((askF (t.2.2.2.1.getD i tIns.dflt)).length : Int) → 0 ≤ a2 ∧ a2 < (i : Int))  : Run Tryd.prog 58 (retQ Tryd.prog (.agg (Ty.enc tTrace ((t.1, t.2.1, (t.2.2.2.1.length : Int), ins ++ ((t.2.2.2.1.getD i tIns.dflt).1, a0, twV (t.2.2.2.1.length : Int) ((askF (t.2.2.2.1.getD i tIns.dflt)).length : Int) 1 a1, twV (t.2.2.2.1.length : Int) ((askF (t.2.2.2.1.getD i tIns.dflt)).length : Int) 2 a2, (t.2.2.2.1.getD i tIns.dflt).2.2.2.2.1, (if 0 ≤ (t.2.2.2.1.getD i tIns.dflt).2.2.2.2.2.1 then (t.2.2.2.1.getD i tIns.dflt).2.2.2.2.2.1 + (t.2.2.2.2.1.length : Int) else (t.2.2.2.1.getD i tIns.dflt).2.2.2.2.2.1), (t.2.2.2.1.getD i tIns.dflt).2.2.2.2.2.2) :: (t.2.2.2.1.drop (i + 1)).map (twIns (t.2.2.2.1.length : Int) (t.2.2.2.2.1.length : Int)), t.2.2.2.2.1 ++ t.2.2.2.2.1.map (shExit (t.2.2.2.1.length : Int)), t.2.2.2.2.2.2, shExit (t.2.2.2.1.length : Int) t.2.2.2.2.2.2))))) (lp (bodyOf Tryd.f58) 1) (.junk :: .c (.ptr 0 0 0 0) :: .c (.ptr 1 0 0 0) :: .c (.int .i64 (t.2.2.2.1.length : Int)) :: .c (.int .i64 (t.2.2.2.2.1.length : Int)) :: .c (.ptr 4 0 0 0) :: .junk :: .c (.ptr 5 0 0 0) :: .c (.sl 6 1 0 3) :: J16 (bCx7 t i)) [.cells 29 (Ty.enc tTrace t), bCx15, .ovec 46 tIns ins, .ovec 27 tExit t.2.2.2.2.1, (bCx1 t ins), (bCx3 t i a0 a1 a2), .cells 101 [.ptr 5 0 0 1, .ptr 5 0 0 2, .ptr 5 0 0 3]] :=
  Run.roundA oc83 twice_lv 3000 Tryd.func58 mixed (twice_i1_R t i ins a0 a1 a2) (twice_i1_R_ok t i ins a0 a1 a2) (by
    unfold twice_i1_R
    have hA := askF_le (t.2.2.2.1.getD i tIns.dflt)
    refine g_iteD (fun h0 => ?_) (fun h0 => ?_)
    · refine g_need (by omega) ?_
      refine g_need (by first | omega | (have := hb1 (by omega); have := hc.n; first | omega | (rw [i64_iff]; omega)) | (constructor <;> first | omega) | (rw [i64_iff]; omega)) ?_
      refine g_need (by first | omega | (have := hb1 (by omega); have := hc.n; first | omega | (rw [i64_iff]; omega)) | (constructor <;> first | omega) | (rw [i64_iff]; omega)) ?_
      refine g_stop (RunN.keep [0, 1, 2, 3, 4, 5, 6] (false :: true :: true :: true :: true :: true :: false :: true :: true :: F16 (F8 (F4 (true :: true :: true :: F8 (false :: true :: true :: F32 (F8 (F4 ([])))))))) n0 (by decide) rfl rfl ?_)
      have ht := twice_i2 t i ins a0 (a1 + (t.2.2.2.1.length : Int)) a2 p hc hi hx hn' hb2; have e1 : twV (t.2.2.2.1.length : Int) ((askF (t.2.2.2.1.getD i tIns.dflt)).length : Int) 1 a1 = a1 + (t.2.2.2.1.length : Int) := if_pos (by omega); rw [e1]; exact ht
    · refine g_stop (RunN.keep [0, 1, 2, 3, 4, 5] (false :: true :: true :: true :: true :: true :: false :: true :: F16 (F8 (F4 (false :: true :: true :: true :: F32 (F16 (F4 (F2 (false :: [])))))))) n0 (by decide) rfl rfl ?_)
      have ht := twice_r12 t i ins a0 a1 a2 p hc hi hx hn'; have e1 : twV (t.2.2.2.1.length : Int) ((askF (t.2.2.2.1.getD i tIns.dflt)).length : Int) 1 a1 = a1 := if_neg (by omega); have e2 : twV (t.2.2.2.1.length : Int) ((askF (t.2.2.2.1.getD i tIns.dflt)).length : Int) 2 a2 = a2 := if_neg (by omega); rw [e1, e2]; exact ht
    )
theorem twice_i0 (t : ETrace) (i : Nat) (ins : List EIns) (a0 : Int) (a1 : Int) (a2 : Int) (p : EProg) (hc : CheckOk p t) (hi : i < t.2.2.2.1.length) (hx : ins.length ≤ t.2.2.2.1.length + i) (hn' : ∀ (ins' : List EIns), ins'.length ≤ t.2.2.2.1.length + (i + 1) → Run Tryd.prog 58 (retQ Tryd.prog (.agg (Ty.enc tTrace ((t.1, t.2.1, (t.2.2.2.1.length : Int), ins' ++ (t.2.2.2.1.drop (i + 1)).map (twIns (t.2.2.2.1.length : Int) (t.2.2.2.2.1.length : Int)), t.2.2.2.2.1 ++ t.2.2.2.2.1.map (shExit (t.2.2.2.1.length : Int)), t.2.2.2.2.2.2, shExit (t.2.2.2.1.length : Int) t.2.2.2.2.2.2))))) (lp (bodyOf Tryd.f58) 0) (.junk :: .c (.ptr 0 0 0 0) :: .c (.ptr 1 0 0 0) :: .c (.int .i64 (t.2.2.2.1.length : Int)) :: .c (.int .i64 (t.2.2.2.2.1.length : Int)) :: .c (.ptr 4 0 0 0) :: J16 (bCx12 t i)) [.cells 29 (Ty.enc tTrace t), bCx15, .ovec 46 tIns ins', .ovec 27 tExit t.2.2.2.2.1, (bCx0 t ins')]) (hb0 : (0 : Int) < ((askF (t.2.2.2.1.getD i tIns.dflt)).length : Int) → 0 ≤ a0 ∧ a0 < (i : Int)) (hb1 : (1 : Int) < ((askF (t.2.2.2.1.getD i tIns.dflt)).length : Int) → 0 ≤ a1 ∧ a1 < (i : Int)) (hb2 : (2 : Int) < ((askF (t.2.2.2.1.getD i tIns.dflt)).length : Int) → 0 ≤ a2 ∧ a2 < (i : Int))  : Run Tryd.prog 58 (retQ Tryd.prog (.agg (Ty.enc tTrace ((t.1, t.2.1, (t.2.2.2.1.length : Int), ins ++ ((t.2.2.2.1.getD i tIns.dflt).1, twV (t.2.2.2.1.length : Int) ((askF (t.2.2.2.1.getD i tIns.dflt)).length : Int) 0 a0, twV (t.2.2.2.1.length : Int) ((askF (t.2.2.2.1.getD i tIns.dflt)).length : Int) 1 a1, twV (t.2.2.2.1.length : Int) ((askF (t.2.2.2.1.getD i tIns.dflt)).length : Int) 2 a2, (t.2.2.2.1.getD i tIns.dflt).2.2.2.2.1, (if 0 ≤ (t.2.2.2.1.getD i tIns.dflt).2.2.2.2.2.1 then (t.2.2.2.1.getD i tIns.dflt).2.2.2.2.2.1 + (t.2.2.2.2.1.length : Int) else (t.2.2.2.1.getD i tIns.dflt).2.2.2.2.2.1), (t.2.2.2.1.getD i tIns.dflt).2.2.2.2.2.2) :: (t.2.2.2.1.drop (i + 1)).map (twIns (t.2.2.2.1.length : Int) (t.2.2.2.2.1.length : Int)), t.2.2.2.2.1 ++ t.2.2.2.2.1.map (shExit (t.2.2.2.1.length : Int)), t.2.2.2.2.2.2, shExit (t.2.2.2.1.length : Int) t.2.2.2.2.2.2))))) (lp (bodyOf Tryd.f58) 1) (.junk :: .c (.ptr 0 0 0 0) :: .c (.ptr 1 0 0 0) :: .c (.int .i64 (t.2.2.2.1.length : Int)) :: .c (.int .i64 (t.2.2.2.2.1.length : Int)) :: .c (.ptr 4 0 0 0) :: .junk :: .c (.ptr 5 0 0 0) :: .c (.sl 6 1 0 3) :: J16 (bCx4 t i)) [.cells 29 (Ty.enc tTrace t), bCx15, .ovec 46 tIns ins, .ovec 27 tExit t.2.2.2.2.1, (bCx1 t ins), (bCx3 t i a0 a1 a2), .cells 101 [.ptr 5 0 0 1, .ptr 5 0 0 2, .ptr 5 0 0 3]] :=
  Run.roundA oc83 twice_lv 3000 Tryd.func58 mixed (twice_i0_R t i ins a0 a1 a2) (twice_i0_R_ok t i ins a0 a1 a2) (by
    unfold twice_i0_R
    have hA := askF_le (t.2.2.2.1.getD i tIns.dflt)
    refine g_iteD (fun h0 => ?_) (fun h0 => ?_)
    · refine g_need (by omega) ?_
      refine g_need (by first | omega | (have := hb0 (by omega); have := hc.n; first | omega | (rw [i64_iff]; omega)) | (constructor <;> first | omega) | (rw [i64_iff]; omega)) ?_
      refine g_need (by first | omega | (have := hb0 (by omega); have := hc.n; first | omega | (rw [i64_iff]; omega)) | (constructor <;> first | omega) | (rw [i64_iff]; omega)) ?_
      refine g_stop (RunN.keep [0, 1, 2, 3, 4, 5, 6] (false :: true :: true :: true :: true :: true :: false :: true :: true :: F16 (F8 (F4 (true :: true :: true :: F8 (false :: true :: true :: F32 (F8 (F4 ([])))))))) n0 (by decide) rfl rfl ?_)
      have ht := twice_i1 t i ins (a0 + (t.2.2.2.1.length : Int)) a1 a2 p hc hi hx hn' hb1 hb2; have e1 : twV (t.2.2.2.1.length : Int) ((askF (t.2.2.2.1.getD i tIns.dflt)).length : Int) 0 a0 = a0 + (t.2.2.2.1.length : Int) := if_pos (by omega); rw [e1]; exact ht
    · refine g_stop (RunN.keep [0, 1, 2, 3, 4, 5] (false :: true :: true :: true :: true :: true :: false :: true :: F16 (F8 (F4 (false :: true :: true :: true :: F32 (F16 (F4 (F2 (false :: [])))))))) n0 (by decide) rfl rfl ?_)
      have ht := twice_r12 t i ins a0 a1 a2 p hc hi hx hn'; have e0 : twV (t.2.2.2.1.length : Int) ((askF (t.2.2.2.1.getD i tIns.dflt)).length : Int) 0 a0 = a0 := if_neg (by omega); have e1 : twV (t.2.2.2.1.length : Int) ((askF (t.2.2.2.1.getD i tIns.dflt)).length : Int) 1 a1 = a1 := if_neg (by omega); have e2 : twV (t.2.2.2.1.length : Int) ((askF (t.2.2.2.1.getD i tIns.dflt)).length : Int) 2 a2 = a2 := if_neg (by omega); rw [e0, e1, e2]; exact ht
    )
theorem twice_l0 (t : ETrace) (i : Nat) (ins : List EIns) (p : EProg) (hc : CheckOk p t) (hx : ins.length ≤ t.2.2.2.1.length + i) : Run Tryd.prog 58 (retQ Tryd.prog (.agg (Ty.enc tTrace ((t.1, t.2.1, (t.2.2.2.1.length : Int), ins ++ (t.2.2.2.1.drop i).map (twIns (t.2.2.2.1.length : Int) (t.2.2.2.2.1.length : Int)), t.2.2.2.2.1 ++ t.2.2.2.2.1.map (shExit (t.2.2.2.1.length : Int)), t.2.2.2.2.2.2, shExit (t.2.2.2.1.length : Int) t.2.2.2.2.2.2))))) (lp (bodyOf Tryd.f58) 0) (.junk :: .c (.ptr 0 0 0 0) :: .c (.ptr 1 0 0 0) :: .c (.int .i64 (t.2.2.2.1.length : Int)) :: .c (.int .i64 (t.2.2.2.2.1.length : Int)) :: .c (.ptr 4 0 0 0) :: J16 (J8 (J4 (J2 (.junk :: .c (.ro tIns t.2.2.2.1) :: .c (.int .i64 (t.2.2.2.1.length : Int)) :: .c (.int .i64 ((i : Nat) : Int)) :: J32 (J16 (J4 (J2 (.junk :: []))))))))) [.cells 29 (Ty.enc tTrace t), bCx15, .ovec 46 tIns ins, .ovec 27 tExit t.2.2.2.2.1, (bCx1 t ins)] :=
  Run.roundA oc83 twice_lv 3000 Tryd.func58 mixed (twice_l0_R t i ins) (twice_l0_R_ok t i ins) (by
    unfold twice_l0_R
    refine g_iteD (fun h0 => ?_) (fun h0 => ?_)
    · refine g_need (by omega) ?_
      refine g_need (by omega) ?_
      refine g_call (asks_fun (t.2.2.2.1.getD i tIns.dflt)) (fun h => nomatch h) ?_
      refine g_stop (RunN.keep [0, 1, 2, 3, 4, 5, 6] (false :: true :: true :: true :: true :: true :: false :: true :: true :: F16 (F8 (F4 (true :: true :: true :: F8 (false :: true :: true :: F32 (F8 (F4 ([])))))))) n0 (by decide) rfl rfl ?_)
      have hb := ask_in hc (show i < t.2.2.2.1.length by omega); have ht := twice_i0 t i ins (t.2.2.2.1.getD i tIns.dflt).2.1 (t.2.2.2.1.getD i tIns.dflt).2.2.1 (t.2.2.2.1.getD i tIns.dflt).2.2.2.1 p hc (by omega) hx (fun ins' q => twice_l0 t (i + 1) ins' p hc q) hb.1 hb.2.1 hb.2.2; rw [dropCons (α := EIns) (Ty.dflt tIns) (by omega : i < t.2.2.2.1.length), List.map_cons]; exact ht
    · refine g_stop (RunN.keep [1, 2, 3, 4] (F2 (true :: true :: false :: true :: F32 (F32 (F8 (false :: true :: true :: true :: F8 (F4 (false :: []))))))) n0 (by decide) rfl rfl ?_)
      have ht := twice_l2 t 0 ins t.2.2.2.2.1 p hc (by simp); rw [List.drop_zero] at ht; rw [show t.2.2.2.1.drop i = [] from List.drop_eq_nil_of_le (by omega), List.map_nil, List.append_nil]; exact ht
    )
  termination_by t.2.2.2.1.length - i
  decreasing_by all_goals omega
theorem twice_fun (t : ETrace) {p : EProg} (hc : CheckOk p t) : AFun Tryd.prog 58 [.agg (tTrace.enc t)] (.agg (Ty.enc tTrace (twF t))) :=
  AFun.of oc83 twice_lv 3000 Tryd.func58 mixed rfl (by decide) (Nat.le_of_ble_eq_true rfl) _ (twice_T_ok t) fun hF => by
    unfold twice_T
    refine g_callH (AFunH.frameB [] (cloneI_fun t.2.2.2.1 (by have := hc.n; omega)) rfl rfl rfl rfl rfl rfl rfl) ?_
    refine g_callH (AFunH.frameB [] (cloneX_fun t.2.2.2.2.1 (by have := hc.m; omega)) rfl rfl rfl rfl rfl rfl rfl) ?_
    refine g_call (moved_fun t.2.2.2.2.2.2 (t.2.2.2.1.length : Int) (by first | exact exits_sm hc (by omega) | exact (hc.small).2.2.2) (by first | exact exits_lo hc (by omega) | exact right_lo hc hc.back.2) (by have := hc.n; omega)) (fun h => nomatch h) ?_
    refine g_stop (RunN.keep [0, 1, 2, 3, 4] (false :: true :: true :: true :: true :: true :: F16 (F8 (F4 (F2 (false :: true :: true :: true :: F32 (F16 (F4 (F2 (false :: []))))))))) n0 (by decide) rfl rfl ?_)
    exact twice_l0 t 0 t.2.2.2.1 p hc (by simp)

end Go.Proofs.YtefkifdhjabdiaaDoor
namespace Go.Proofs.YtefkifdhjabdiaaDoor
set_option maxHeartbeats 4000000
set_option linter.unusedVariables false
set_option linter.unusedSimpArgs false
set_option maxRecDepth 100000
def iota (n : Nat) : List Int := (List.range n).map fun i : Nat => (i : Int)
theorem iota_succ (n : Nat) : iota n ++ [(n : Int)] = iota (n + 1) := by simp [iota, List.range_succ]
theorem iota_len (n : Nat) : (iota n).length = n := by simp [iota]
theorem iota_at {n : Nat} {v : Int} (h0 : 0 ≤ v) (h : v < n) : (iota n).getD v.toNat tI.dflt = v := by
  have hv : v.toNat < n := by omega
  rw [List.getD_eq_getElem?_getD, iota, List.getElem?_map, List.getElem?_range hv]
  show ((v.toNat : Nat) : Int) = v
  omega
theorem cutOne_iota {n : Nat} {v : Int} (h0 : 0 ≤ v) (h : v < n) : cutOne (iota n) v = (v, true) := by
  unfold cutOne
  rw [if_neg (by omega), if_neg (by rw [iota_len]; omega), if_neg (by rw [iota_at h0 h]; omega), iota_at h0 h]
theorem valueF_lt {c : EChk} {v a : Int} (h : valueF c v a = true) : 0 ≤ v ∧ v < a ∧ v < (c.2.2.2.2.1.length : Int) := by
  unfold valueF at h
  by_cases h1 : 0 ≤ v
  · rw [if_pos h1] at h
    by_cases h2 : v < a
    · rw [if_pos h2] at h
      by_cases h3 : v < (c.2.2.2.2.1.length : Int)
      · exact ⟨h1, h2, h3⟩
      · rw [if_neg h3] at h; cases h
    · rw [if_neg h2] at h; cases h
  · rw [if_neg h1] at h; cases h
theorem cut_sets {c : EChk} {a : Int} : ∀ {l : List EVal} {last : Int}, setsF c a last l = true → l.all (cutSetOk (iota c.2.2.2.2.1.length)) = true ∧ l.map (cutSet (iota c.2.2.2.2.1.length)) = l
  | [], _, _ => ⟨rfl, rfl⟩
  | s :: r, last, h => by
    unfold setsF at h
    split at h
    · cases h
    · split at h
      · cases h
      · split at h
        · cases h
        · rename_i _ _ hv
          obtain ⟨h0, _, h2⟩ := valueF_lt (by simpa using hv)
          obtain ⟨q1, q2⟩ := cut_sets h
          have e := cutOne_iota h0 h2
          refine ⟨?_, ?_⟩
          · rw [List.all_cons, q1, cutSetOk, e]; rfl
          · rw [List.map_cons, q2, cutSet, e]
theorem cut_make {c : EChk} {m : EMake} {a : Int} (h : makeF c m a = true) : cutMakeOk (iota c.2.2.2.2.1.length) m = true ∧ cutMake (iota c.2.2.2.2.1.length) m = m := by
  obtain ⟨h1, _, _, _, _, _, _, h8⟩ := makeF_iff.1 h
  obtain ⟨h0, _, h2⟩ := valueF_lt h1
  have e := cutOne_iota h0 h2
  have hl : ∀ v ∈ m.2.2.2, cutOne (iota c.2.2.2.2.1.length) v = (v, true) := fun v hv => by
    obtain ⟨h0, _, h2⟩ := valueF_lt (List.all_eq_true.1 h8 v hv)
    exact cutOne_iota h0 h2
  refine ⟨?_, ?_⟩
  · unfold cutMakeOk
    rw [e, Bool.true_and, List.all_eq_true]
    exact fun v hv => by rw [hl v hv]
  · unfold cutMake
    rw [e]
    have : (m.2.2.2.map fun v => (cutOne (iota c.2.2.2.2.1.length) v).1) = m.2.2.2 := by
      conv => rhs; rw [← List.map_id m.2.2.2]
      exact List.map_congr_left fun v hv => by rw [hl v hv]; rfl
    rw [this]
theorem cut_makes {c : EChk} {a : Int} : ∀ {l : List EMake} {last : Int}, makesF c a last l = true → l.all (cutMakeOk (iota c.2.2.2.2.1.length)) = true ∧ l.map (cutMake (iota c.2.2.2.2.1.length)) = l
  | [], _, _ => ⟨rfl, rfl⟩
  | m :: r, last, h => by
    unfold makesF at h
    split at h
    · cases h
    · split at h
      · cases h
      · rename_i _ hv
        obtain ⟨e1, e2⟩ := cut_make (c := c) (m := m) (a := a) (by simpa using hv)
        obtain ⟨q1, q2⟩ := cut_makes h
        exact ⟨by rw [List.all_cons, q1, e1]; rfl, by rw [List.map_cons, q2, e2]⟩
theorem cut_exit {c : EChk} {x : EExit} {a : Int} (h : rightXF c x a = true) : cutExitOk (iota c.2.2.2.2.1.length) x = true ∧ cutExit (iota c.2.2.2.2.1.length) x = x := by
  obtain ⟨_, _, h1, h2⟩ := rightXF_iff.1 h
  obtain ⟨a1, a2⟩ := cut_sets h1
  obtain ⟨b1, b2⟩ := cut_makes h2
  exact ⟨by unfold cutExitOk; rw [a1, b1]; rfl, by unfold cutExit; rw [a2, b2]⟩
theorem take_mem3 {a b c : Int} {n : Int} : (0 < n → a ∈ [a, b, c].take n.toNat) ∧ (1 < n → b ∈ [a, b, c].take n.toNat) ∧ (2 < n → c ∈ [a, b, c].take n.toNat) := by
  refine ⟨fun h => ?_, fun h => ?_, fun h => ?_⟩
  · rw [show n.toNat = (n.toNat - 1) + 1 by omega]; simp
  · rw [show n.toNat = (n.toNat - 2) + 1 + 1 by omega]; simp
  · rw [show n.toNat = (n.toNat - 3) + 1 + 1 + 1 by omega]; simp
theorem cut_ins {c : EChk} {x : EIns} {i : Nat} (ht : (ofF x.1).2 = true) (h : formedF c (ofF x.1).1 x (i : Int) = true) : cutInsOk (iota (i + 1)) x = true ∧ cutIns (iota (i + 1)) x = x := by
  unfold formedF at h
  rw [Bool.and_eq_true] at h
  have hv := h.1
  obtain ⟨m0, m1, m2⟩ := take_mem3 (a := x.2.1) (b := x.2.2.1) (c := x.2.2.2.1) (n := (ofF x.1).1.1)
  have key : ∀ v ∈ [x.2.1, x.2.2.1, x.2.2.2.1].take (ofF x.1).1.1.toNat, cutOne (iota (i + 1)) v = (v, true) := fun v hm => by
    obtain ⟨h0, h1, _⟩ := valueF_lt (List.all_eq_true.1 hv v hm)
    exact cutOne_iota h0 (by omega)
  have hst : ∀ (k v : Int), (k < (ofF x.1).1.1 → cutOne (iota (i + 1)) v = (v, true)) → stepOk (iota (i + 1)) (ofF x.1).1.1 k v = true ∧ stepV (iota (i + 1)) (ofF x.1).1.1 k v = v := fun k v hk => by
    unfold stepOk stepV
    by_cases h : k < (ofF x.1).1.1
    · rw [if_pos h, if_pos h, hk h]; exact ⟨rfl, rfl⟩
    · rw [if_neg h, if_neg h]; exact ⟨rfl, rfl⟩
  obtain ⟨a0, b0⟩ := hst 0 x.2.1 fun h => key _ (m0 h)
  obtain ⟨a1, b1⟩ := hst 1 x.2.2.1 fun h => key _ (m1 h)
  obtain ⟨a2, b2⟩ := hst 2 x.2.2.2.1 fun h => key _ (m2 h)
  have hc : cutAsks x.1 = (ofF x.1).1.1 := by unfold cutAsks; rw [if_pos ht]
  exact ⟨by unfold cutInsOk; rw [hc, a0, a1, a2]; rfl, by unfold cutIns; rw [hc, b0, b1, b2]⟩
theorem cut_loop {loop : Int} (l : List EIns) (hx : ∀ (i : Nat) (x : EIns), l[i]? = some x → cutInsOk (iota (i + 1)) x = true ∧ cutIns (iota (i + 1)) x = x) : ∀ (k i : Nat) (lo : Int), l.length - i = k → i ≤ l.length →
    ∃ lo', cutLoop loop i (l.drop i) ((iota l.length).drop i) (iota i) true lo (l.take i) = some (iota l.length, true, lo', l) ∧ ((i : Int) ≤ loop → loop < (l.length : Int) → lo' = loop) ∧ (loop < (i : Int) → lo' = lo)
  | 0, i, lo, hk, hi => by
    obtain rfl : i = l.length := by omega
    rw [List.drop_eq_nil_of_le (Nat.le_refl _), List.take_of_length_le (Nat.le_refl _)]
    exact ⟨lo, rfl, fun h1 h2 => by omega, fun _ => rfl⟩
  | k + 1, i, lo, hk, hi => by
    have hlt : i < l.length := by omega
    have hlt2 : i < (iota l.length).length := by rw [iota_len]; exact hlt
    have ex : l[i]? = some (l.getD i tIns.dflt) := by rw [List.getD_eq_getElem?_getD, List.getElem?_eq_getElem hlt]; rfl
    obtain ⟨q1, q2⟩ := hx i _ ex
    have e1 : (iota l.length).getD i tI.dflt = (i : Int) := by
      have := iota_at (n := l.length) (v := (i : Int)) (by omega) (by omega)
      rwa [Int.toNat_natCast] at this
    have et : l.take i ++ [l.getD i tIns.dflt] = l.take (i + 1) := by rw [List.take_add_one, ex]; rfl
    have el : ((l.take i).length : Int) = (i : Int) := by rw [List.length_take, Nat.min_eq_left hi]
    obtain ⟨lo', r1, r2, r3⟩ := cut_loop (loop := loop) l hx k (i + 1) (if (i : Int) = loop then (i : Int) else lo) (by omega) (by omega)
    refine ⟨lo', ?_, fun h1 h2 => ?_, fun h1 => ?_⟩
    · rw [dropCons (α := EIns) (Ty.dflt tIns) hlt, dropCons (α := Int) (Ty.dflt tI) hlt2, cutLoop, if_pos e1, el, iota_succ, q1, q2, et]
      exact r1
    · by_cases h : (i : Int) = loop
      · have := r3 (by omega)
        rw [if_pos h] at this
        omega
      · exact r2 (by omega) h2
    · have := r3 (by omega)
      rw [if_neg (by omega)] at this
      exact this
theorem cut_all {p : EProg} {t : ETrace} (h : CheckOk p t) : cutF t (iota t.2.2.2.1.length) = (t, 0) := by
  have hx : ∀ (i : Nat) (x : EIns), t.2.2.2.1[i]? = some x → cutInsOk (iota (i + 1)) x = true ∧ cutIns (iota (i + 1)) x = x := fun i x hi => by
    obtain ⟨h1, h2⟩ := h.ins i x hi
    exact cut_ins h1 h2
  obtain ⟨lo', r1, r2, _⟩ := cut_loop (loop := t.2.2.1) t.2.2.2.1 hx _ 0 0 rfl (Nat.zero_le _)
  have hl : loopAt t lo' t.2.2.2.1.length = t.2.2.1 := by
    have g0 := h.loop0
    have g1 := h.loop1
    unfold loopAt
    by_cases h1 : t.2.2.1 ≤ 0
    · rw [if_pos h1]; omega
    · rw [if_neg h1]
      by_cases h2 : (t.2.2.2.1.length : Int) ≤ t.2.2.1
      · rw [if_pos h2]; omega
      · rw [if_neg h2]; exact r2 (by omega) (by omega)
  have hr1 : cutLoop t.2.2.1 0 t.2.2.2.1 (iota t.2.2.2.1.length) [] true 0 [] = some (iota t.2.2.2.1.length, true, lo', t.2.2.2.1) := r1
  have hex : t.2.2.2.2.1.all (cutExitOk (iota t.2.2.2.1.length)) = true ∧ t.2.2.2.2.1.map (cutExit (iota t.2.2.2.1.length)) = t.2.2.2.2.1 := by
    refine ⟨List.all_eq_true.2 fun x hx => (cut_exit (c := chkOf p t) (h.exits x hx)).1, ?_⟩
    conv => rhs; rw [← List.map_id t.2.2.2.2.1]
    exact List.map_congr_left fun x hx => (cut_exit (c := chkOf p t) (h.exits x hx)).2
  have htu : cutExitOk (iota t.2.2.2.1.length) t.2.2.2.2.2.1 = true ∧ cutExit (iota t.2.2.2.1.length) t.2.2.2.2.2.1 = t.2.2.2.2.2.1 := by
    rcases Int.lt_or_eq_of_le h.loop0 with hl | hl
    · exact cut_exit (c := chkOf p t) (h.turn1 hl).2
    · rw [bareF_iff.1 (h.turn0 hl.symm)]; exact ⟨rfl, rfl⟩
  have hba : cutExitOk (iota t.2.2.2.1.length) t.2.2.2.2.2.2 = true ∧ cutExit (iota t.2.2.2.1.length) t.2.2.2.2.2.2 = t.2.2.2.2.2.2 := cut_exit (c := chkOf p t) h.back.2
  unfold cutF
  rw [if_pos (iota_len _), hr1]
  show cutEnd t (iota t.2.2.2.1.length) true (loopAt t lo' t.2.2.2.1.length) t.2.2.2.1 = (t, 0)
  rw [hl]
  unfold cutEnd endF
  rw [List.drop_zero, hex.1, htu.1, hba.1, hex.2, htu.2, hba.2, List.nil_append]
  rfl
theorem cutLoop_len {loop : Int} : ∀ {xs : List EIns} {i : Nat} {ns at_ : List Int} {f : Bool} {lo : Int} {ins : List EIns} {r : List Int × Bool × Int × List EIns}, cutLoop loop i xs ns at_ f lo ins = some r → r.2.2.2.length ≤ ins.length + xs.length
  | [], i, ns, at_, f, lo, ins, r, h => by
    unfold cutLoop at h
    injection h with h
    rw [← h]
    exact Nat.le_add_right _ _
  | x :: xs, i, [], at_, f, lo, ins, r, h => by
    unfold cutLoop at h
    injection h with h
    rw [← h]
    exact Nat.le_add_right _ _
  | x :: xs, i, n :: ns, at_, f, lo, ins, r, h => by
    rw [cutLoop] at h
    rw [List.length_cons]
    split at h
    · have := cutLoop_len h
      rw [List.length_append, List.length_singleton] at this
      omega
    · split at h
      · have := cutLoop_len h; omega
      · split at h
        · split at h
          · have := cutLoop_len h; omega
          · cases h
        · cases h
theorem cut_any (t : ETrace) (to : List Int) : ((cutF t to).2 = 0 ∧ (cutF t to).1.2.2.2.1.length ≤ t.2.2.2.1.length) ∨ ((cutF t to).2 = 3 ∧ (cutF t to).1.2.2.2.1.length = 0) := by
  unfold cutF
  split
  · cases h : cutLoop t.2.2.1 0 t.2.2.2.1 to [] true 0 [] with
    | none => exact .inr ⟨rfl, rfl⟩
    | some r =>
      have hl := cutLoop_len h
      unfold cutThen cutEnd endF
      simp only
      split
      · exact .inl ⟨rfl, by simpa using hl⟩
      · exact .inr ⟨rfl, rfl⟩
  · exact .inr ⟨rfl, rfl⟩
theorem cutNone_all {p : EProg} {t : ETrace} {i : Nat} {l : List Int} (hc : CheckOk p t) (h0 : ¬ ((i : Int) < (t.2.2.2.1.length : Int))) (hi : i ≤ t.2.2.2.1.length) (ha : l = iota i) : cutF t l = (t, 0) := by
  obtain rfl : i = t.2.2.2.1.length := by omega
  rw [ha]
  exact cut_all hc
end Go.Proofs.YtefkifdhjabdiaaDoor
namespace Go.Proofs.YtefkifdhjabdiaaDoor
set_option linter.unusedVariables false
set_option linter.unusedSimpArgs false
open Go.RowKit
theorem AFunH.ofPro {P : Program} {f g : Nat} {t u : Ty} {ys : List t.El} {xs : List u.El} {e e2 : TypeId} {n b0 b1 : Nat} {r : AV} {H : List AB}
    (h : AFun P f [.c (.ro t ys), .c (.fnc (.fn0 g) (.pro (.slice u) [xs] 0 0))] r) (hr : r.flat = true) (h0 : gv H b0 = .cells e [.sl b1 u.sz 0 n]) (h1 : gv H b1 = .vec e2 u xs) (hn : n = xs.length) :
    AFunH P f [.c (.ro t ys), .c (.fnc (.fn0 g) (.ptr b0 0 0 0))] H r H [] where
  len := Nat.le_refl _
  lt := fun b hb => by cases hb
  off := fun _ _ => rfl
  act := fun σ w vs hrel hD hv => by
    obtain ⟨x0, r0, rfl, q0, hr0⟩ := hv.cons_of
    obtain ⟨x1, r1, rfl, q1, hr1⟩ := hr0.cons_of
    obtain rfl := List.eq_nil_of_length_eq_zero hr1.1.symm
    obtain ⟨f', cs, u', rfl, hf, hD0, rfl⟩ := q1
    have hB := hrel.blk b0 (by rw [h0]; simp)
    rw [h0] at hB
    obtain ⟨c, hc, hcs⟩ := hB
    obtain ⟨v0, rr, hv0, k0, k1⟩ := hcs.cons_of
    obtain rfl := List.eq_nil_of_length_eq_zero k1.1.symm
    have hro : CC (fS σ (gv H) [b0, b1]) w (.ro u xs) v0 := vec_reads hrel h1 hn k0 (by simp)
    have hR0 : fR σ (gv H) [b0, b1] (σ.ι b0) := .inr ⟨b0, by simp, by rw [h0]; simp, rfl⟩
    have hpro : (Rd.slice (Ty.slice u).rd).K (fR σ (gv H) [b0, b1]) w [xs] [.slice (some ⟨σ.ι b0, 0, none⟩) 1 1] := by
      refine ⟨some ⟨σ.ι b0, 0, none⟩, 1, rfl, Nat.le_refl _, by omega, by simp, rfl, by simp, fun _ => ⟨_, rfl, hR0, (Array.getElem?_eq_some_iff.1 hc).1, fun i x hi => ?_⟩⟩
      have hi0 : i = 0 := by
        have := (List.getElem?_eq_some_iff.1 hi).1
        simp at this
        omega
      subst hi0
      simp at hi
      subst hi
      refine ⟨[v0], hro, fun j u hj => ?_⟩
      have hj0 : j = 0 := by
        have := (List.getElem?_eq_some_iff.1 hj).1
        simp at this
        omega
      subst hj0
      rw [add_eq rfl, cell_row hc, hv0]
      simpa using hj
    have h2 : All2 (CA ⟨id, fun _ => False, fR σ (gv H) [b0, b1]⟩ w) [.c (.ro t ys), .c (.fnc (.fn0 g) (.pro (.slice u) [xs] 0 0))] [x0, .func (.func f') #[] (cs.push (.pointer (some ⟨σ.ι b0, 0 * 0 + 0, none⟩)))] :=
      .cons ((Rd.slice t.rd).mono (fun k hk => .inl hk) q0) (.cons ⟨f', cs, _, rfl, hf, ⟨_, 1, hpro, by simp, by simp⟩⟩ .nil)
    have hst : ∀ w', Below w.heap.size w w' → Stp σ (gv H) w [] (gv H) σ w' := fun w' hb => Stp.quiet (fun _ => Iff.rfl) rfl (fun _ h => h) hb (fun _ h => .inl h) fun k hk => Nat.lt_of_lt_of_le (hrel.rlt k hk) hb.size
    have h3 := h (fR σ (gv H) [b0, b1]) w _ (fun k hk => by
      rcases hk with hk | ⟨b, hb, ha, e⟩
      · exact hrel.rlt k hk
      · rw [← e]; exact (hrel.blk b ha).lt ha) (hrel.glob.mono fun k h => .inl h) h2
    rcases h3 with ⟨hen, hc⟩ | ⟨v, w', hval, hb, hv⟩
    · exact .inl ⟨hen, hc.mono fun e w' ⟨v, he, hb, hv⟩ => ⟨v, he, σ, hst w' hb, CA.flat hr hv _ _⟩⟩
    · exact .inr ⟨v, w', hval, σ, hst w' hb, CA.flat hr hv _ _⟩
end Go.Proofs.YtefkifdhjabdiaaDoor
