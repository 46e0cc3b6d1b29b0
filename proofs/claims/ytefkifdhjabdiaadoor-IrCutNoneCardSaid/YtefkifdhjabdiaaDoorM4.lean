/- What the laws' texts lean on, part 5: lemmas and the contracts of functions. No condition. -/
import Derived.Test.YtefkifdhjabdiaaDoorM1
import Derived.Test.YtefkifdhjabdiaaDoorM3
namespace Go.Proofs.YtefkifdhjabdiaaDoor
set_option linter.unusedVariables false
set_option linter.unusedSimpArgs false
set_option maxRecDepth 100000
def cutOne (at_ : List Int) (v : Int) : Int × Bool := if v < 0 then (-1, false) else if (at_.length : Int) ≤ v then (-1, false) else if at_.getD v.toNat tI.dflt < 0 then (-1, false) else (at_.getD v.toNat tI.dflt, true)
noncomputable def oc20 : Orc where
  pure := fun f args => match f, args with
    | _, _ => none
  heap := fun _ _ _ => none
def one_lv : LV := ⟨([]), []⟩
noncomputable def one_T (at_ : List Int) (fine : Bool) (v : Int) : Tree :=
  .ite (decide (v < 0))
  (.ret (.c (.int .i64 (-1))) [.cells 97 [.osl 1 1 at_.length, .lit false], .ovec 3 tI at_])
  (.ite (decide (((at_.length : Nat) : Int) ≤ v))
   (.ret (.c (.int .i64 (-1))) [.cells 97 [.osl 1 1 at_.length, .lit false], .ovec 3 tI at_])
   (.need ((0 : Int) ≤ v ∧ (v : Int) < ((at_.length : Nat) : Int)) <|
    .need ((Int.toNat v) < at_.length) <|
    .ite (decide ((at_.getD (Int.toNat v) tI.dflt) < 0))
    (.ret (.c (.int .i64 (-1))) [.cells 97 [.osl 1 1 at_.length, .lit false], .ovec 3 tI at_])
    (.need ((0 : Int) ≤ v ∧ (v : Int) < ((at_.length : Nat) : Int)) <|
     .need ((Int.toNat v) < at_.length) <|
     .ret (.c (.int .i64 (at_.getD (Int.toNat v) tI.dflt))) [.cells 97 [.osl 1 1 at_.length, .bool fine], .ovec 3 tI at_])))
theorem one_T_ok (at_ : List Int) (fine : Bool) (v : Int) : aRun Tryd.prog oc20 Tryd.f88 one_lv 3000 [.code (bodyOf Tryd.f88)] ([.c (.ptr 0 0 0 0), .c (.int .i64 v)] ++ List.replicate (Func.ntmps Tryd.f88 - 2) .junk) [.cells 97 [.osl 1 1 at_.length, .bool fine], .ovec 3 tI at_] = one_T at_ fine v := by kernel_rfl
theorem one_fun (at_ : List Int) (fine : Bool) (v : Int) : AFunH Tryd.prog 88 [.c (.ptr 0 0 0 0), .c (.int .i64 v)] [.cells 97 [.osl 1 1 at_.length, .bool fine], .ovec 3 tI at_] (.c (.int .i64 ((cutOne at_ v).1))) [.cells 97 [.osl 1 1 at_.length, .bool (fine && (cutOne at_ v).2)], .ovec 3 tI at_] (List.range 2) :=
  AFunH.ofL oc20 one_lv 3000 Tryd.func88 mixed rfl (by decide) (Nat.le_of_ble_eq_true rfl) rfl rfl (Nat.le_of_ble_eq_true rfl) _ (one_T_ok at_ fine v) fun hF => by
    unfold one_T
    refine g_iteD (fun h0 => ?_) (fun h0 => ?_)
    · refine g_fin ?_
      exact g_end [0, 1] (show ∀ k, k < 2 → ([0, 1] : List Nat)[k]? = some k by decide) (by decide) (⟨rfl, (show ((-1) : Int) = (cutOne at_ v).1 from by simp only [cutOne, h0, if_true, if_false, Bool.and_false, Bool.and_true])⟩) ⟨⟨rfl, leC.refl _, (show (false : Bool) = (fine && (cutOne at_ v).2) from by simp only [cutOne, h0, if_true, if_false, Bool.and_false, Bool.and_true]), trivial⟩, leB.refl _, trivial⟩
    · refine g_iteD (fun h1 => ?_) (fun h1 => ?_)
      · refine g_fin ?_
        exact g_end [0, 1] (show ∀ k, k < 2 → ([0, 1] : List Nat)[k]? = some k by decide) (by decide) (⟨rfl, (show ((-1) : Int) = (cutOne at_ v).1 from by simp only [cutOne, h0, h1, if_true, if_false, Bool.and_false, Bool.and_true])⟩) ⟨⟨rfl, leC.refl _, (show (false : Bool) = (fine && (cutOne at_ v).2) from by simp only [cutOne, h0, h1, if_true, if_false, Bool.and_false, Bool.and_true]), trivial⟩, leB.refl _, trivial⟩
      · refine g_need (by omega) ?_
        refine g_need (by omega) ?_
        refine g_iteD (fun h2 => ?_) (fun h2 => ?_)
        · refine g_fin ?_
          exact g_end [0, 1] (show ∀ k, k < 2 → ([0, 1] : List Nat)[k]? = some k by decide) (by decide) (⟨rfl, (show ((-1) : Int) = (cutOne at_ v).1 from by simp only [cutOne, h0, h1, h2, if_true, if_false, Bool.and_false, Bool.and_true])⟩) ⟨⟨rfl, leC.refl _, (show (false : Bool) = (fine && (cutOne at_ v).2) from by simp only [cutOne, h0, h1, h2, if_true, if_false, Bool.and_false, Bool.and_true]), trivial⟩, leB.refl _, trivial⟩
        · refine g_need (by omega) ?_
          refine g_need (by omega) ?_
          refine g_fin ?_
          exact g_end [0, 1] (show ∀ k, k < 2 → ([0, 1] : List Nat)[k]? = some k by decide) (by decide) (⟨rfl, (show ((at_.getD (Int.toNat v) tI.dflt) : Int) = (cutOne at_ v).1 from by simp only [cutOne, h0, h1, h2, if_true, if_false, Bool.and_false, Bool.and_true])⟩) ⟨⟨rfl, leC.refl _, (show (fine : Bool) = (fine && (cutOne at_ v).2) from by simp only [cutOne, h0, h1, h2, if_true, if_false, Bool.and_false, Bool.and_true]), trivial⟩, leB.refl _, trivial⟩

def cutSet (at_ : List Int) (s : EVal) : EVal := (s.1, (cutOne at_ s.2).1)
def cutSetOk (at_ : List Int) (s : EVal) : Bool := (cutOne at_ s.2).2
def cutMake (at_ : List Int) (m : EMake) : EMake := ((cutOne at_ m.1).1, m.2.1, m.2.2.1, m.2.2.2.map fun v => (cutOne at_ v).1)
def cutMakeOk (at_ : List Int) (m : EMake) : Bool := (cutOne at_ m.1).2 && m.2.2.2.all fun v => (cutOne at_ v).2
def cutExit (at_ : List Int) (x : EExit) : EExit := (x.1, x.2.1, x.2.2.1.map (cutSet at_), x.2.2.2.map (cutMake at_))
def cutExitOk (at_ : List Int) (x : EExit) : Bool := x.2.2.1.all (cutSetOk at_) && x.2.2.2.all (cutMakeOk at_)
/-- An exit of a size that can be. -/
def exitSm (x : EExit) : Prop := x.2.2.1.length ≤ 1000000 ∧ x.2.2.2.length ≤ 1000000 ∧ ∀ m ∈ x.2.2.2, m.2.2.2.length ≤ 1000000
noncomputable def oc21 : Orc where
  pure := fun f args => match f, args with
    | _, _ => none
  heap := fun f args H => match f, args with
    | 88, [.one (.c (.ptr b0 0 0 0)), a1] => match cellsAs 97 H[b0]? with
      | some [.osl b1 1 _, c0_1] => (match dA tI a1, dC .bool c0_1, ovecAs 3 tI H[b1]? with
        | some x1, some y0_1, some y1 => hres [b0, b1] H (.c (.int .i64 ((cutOne y1 x1).1))) [.cells 97 [.osl 1 1 y1.length, .bool (y0_1 && (cutOne y1 x1).2)], .ovec 3 tI y1]
        | _, _, _ => none)
      | _ => none
    | _, _ => none
def cexit_lv : LV := ⟨(true :: F2 (true :: true :: true :: F4 (true :: F8 (true :: true :: true :: F16 (false :: true :: true :: true :: F8 (F4 (false :: true :: true :: true :: F16 (F4 ([]))))))))), []⟩
noncomputable def cexit_T (at_ : List Int) (fine : Bool) (x : EExit) : Tree :=
  .stop (lp (bodyOf Tryd.f49) 0) (.c (.ptr 0 0 0 0) :: J2 (.c (.ptr 2 0 0 0) :: .c (.ptr 3 0 0 0) :: .c (.ptr 4 0 0 0) :: J8 (J4 (.junk :: .c (.ro tVal x.2.2.1) :: .c (.int .i64 (x.2.2.1.length : Int)) :: .c (.int .i64 0) :: J32 (J16 (J8 ([]))))))) [.cells 97 [.osl 1 1 at_.length, .bool fine], .ovec 3 tI at_, .cells 27 (Ty.enc tExit x), .cells 27 [.int .i64 0, .int .i64 0, .nilsl, .nilsl], .cells 27 [.int .i64 x.1, .int .i64 x.2.1, .nilsl, .nilsl]]
theorem cexit_T_ok (at_ : List Int) (fine : Bool) (x : EExit) : aRun Tryd.prog oc21 Tryd.f49 cexit_lv 3000 [.code (bodyOf Tryd.f49)] ([.c (.ptr 0 0 0 0), .agg (tExit.enc x)] ++ List.replicate (Func.ntmps Tryd.f49 - 2) .junk) [.cells 97 [.osl 1 1 at_.length, .bool fine], .ovec 3 tI at_] = cexit_T at_ fine x := by kernel_rfl
noncomputable def cexit_l0_R (at_ : List Int) (fine : Bool) (x : EExit) (i : Nat) (f : Bool) (ss : List EVal) : Tree :=
  .ite (decide (((i : Nat) : Int) < (x.2.2.1.length : Int)))
  (.need ((0 : Int) ≤ ((i : Nat) : Int) ∧ (((i : Nat) : Int) : Int) < (x.2.2.1.length : Int)) <|
   .need (i < x.2.2.1.length) <|
   .callH 88 [.c (.ptr 0 0 0 0), .c (.int .i64 (x.2.2.1.getD i tVal.dflt).2)] [.cells 97 [.osl 1 1 at_.length, .bool f], .ovec 3 tI at_, .cells 27 (Ty.enc tExit x), .cells 27 [.int .i64 0, .int .i64 0, .nilsl, .nilsl], .cells 27 [.int .i64 x.1, .int .i64 x.2.1, .osl 5 2 ss.length, .nilsl], .ovec 116 tVal ss, .cells 116 [.int .i64 (x.2.2.1.getD i tVal.dflt).1, .int .i64 (x.2.2.1.getD i tVal.dflt).2]] (.c (.int .i64 (cutOne at_ (x.2.2.1.getD i tVal.dflt).2).1)) [.cells 97 [.osl 1 1 at_.length, .bool (f && (cutOne at_ (x.2.2.1.getD i tVal.dflt).2).2)], .ovec 3 tI at_, .cells 27 (Ty.enc tExit x), .cells 27 [.int .i64 0, .int .i64 0, .nilsl, .nilsl], .cells 27 [.int .i64 x.1, .int .i64 x.2.1, .osl 5 2 ss.length, .nilsl], .ovec 116 tVal ss, .cells 116 [.int .i64 (x.2.2.1.getD i tVal.dflt).1, .int .i64 (x.2.2.1.getD i tVal.dflt).2]] [0, 1] <|
   .need (ss.length = ss.length) <|
   .need (0 = 0 ∧ 1 = ([((x.2.2.1.getD i tVal.dflt).1, (cutOne at_ (x.2.2.1.getD i tVal.dflt).2).1)]).length) <|
   .need ((ss.length + ([((x.2.2.1.getD i tVal.dflt).1, (cutOne at_ (x.2.2.1.getD i tVal.dflt).2).1)]).length) * 16 ≤ 140737488355328) <|
   .need (inR .i64 (((i : Nat) : Int) + 1)) <|
   .stop (lp (bodyOf Tryd.f49) 0) (.c (.ptr 0 0 0 0) :: J2 (.c (.ptr 2 0 0 0) :: .c (.ptr 3 0 0 0) :: .c (.ptr 4 0 0 0) :: J8 (J4 (.junk :: .c (.ro tVal x.2.2.1) :: .c (.int .i64 (x.2.2.1.length : Int)) :: .c (.int .i64 (((i : Nat) : Int) + 1)) :: J32 (J16 (J8 ([]))))))) [.cells 97 [.osl 1 1 at_.length, .bool (f && (cutOne at_ (x.2.2.1.getD i tVal.dflt).2).2)], .ovec 3 tI at_, .cells 27 (Ty.enc tExit x), .cells 27 [.int .i64 0, .int .i64 0, .nilsl, .nilsl], .cells 27 [.int .i64 x.1, .int .i64 x.2.1, .osl 8 2 (ss ++ [((x.2.2.1.getD i tVal.dflt).1, (cutOne at_ (x.2.2.1.getD i tVal.dflt).2).1)]).length, .nilsl], .dead, .cells 116 [.int .i64 (x.2.2.1.getD i tVal.dflt).1, .int .i64 (x.2.2.1.getD i tVal.dflt).2], .vec 116 tVal ([((x.2.2.1.getD i tVal.dflt).1, (cutOne at_ (x.2.2.1.getD i tVal.dflt).2).1)]), .ovec 116 tVal (ss ++ [((x.2.2.1.getD i tVal.dflt).1, (cutOne at_ (x.2.2.1.getD i tVal.dflt).2).1)])])
  (.stop (lp (bodyOf Tryd.f49) 1) (.c (.ptr 0 0 0 0) :: J2 (.c (.ptr 2 0 0 0) :: .c (.ptr 3 0 0 0) :: .c (.ptr 4 0 0 0) :: J8 (J4 (.junk :: .c (.ro tVal x.2.2.1) :: .c (.int .i64 (x.2.2.1.length : Int)) :: .c (.int .i64 ((i : Nat) : Int)) :: J16 (.junk :: .c (.ro tMake x.2.2.2) :: .c (.int .i64 (x.2.2.2.length : Int)) :: .c (.int .i64 0) :: J32 (J4 ([]))))))) [.cells 97 [.osl 1 1 at_.length, .bool f], .ovec 3 tI at_, .cells 27 (Ty.enc tExit x), .cells 27 [.int .i64 0, .int .i64 0, .nilsl, .nilsl], .cells 27 [.int .i64 x.1, .int .i64 x.2.1, .osl 5 2 ss.length, .nilsl], .ovec 116 tVal ss])
theorem cexit_l0_R_ok (at_ : List Int) (fine : Bool) (x : EExit) (i : Nat) (f : Bool) (ss : List EVal) : aRound Tryd.prog oc21 Tryd.f49 cexit_lv 3000 (lp (bodyOf Tryd.f49) 0) (.c (.ptr 0 0 0 0) :: J2 (.c (.ptr 2 0 0 0) :: .c (.ptr 3 0 0 0) :: .c (.ptr 4 0 0 0) :: J8 (J4 (.junk :: .c (.ro tVal x.2.2.1) :: .c (.int .i64 (x.2.2.1.length : Int)) :: .c (.int .i64 ((i : Nat) : Int)) :: J32 (J16 (J8 ([]))))))) [.cells 97 [.osl 1 1 at_.length, .bool f], .ovec 3 tI at_, .cells 27 (Ty.enc tExit x), .cells 27 [.int .i64 0, .int .i64 0, .nilsl, .nilsl], .cells 27 [.int .i64 x.1, .int .i64 x.2.1, .osl 5 2 ss.length, .nilsl], .ovec 116 tVal ss] = cexit_l0_R at_ fine x i f ss := by kernel_rfl
noncomputable def cexit_l1_R (at_ : List Int) (fine : Bool) (x : EExit) (j : Nat) (f : Bool) (ss : List EVal) (ms : List EMake) : Tree :=
  .ite (decide (((j : Nat) : Int) < (x.2.2.2.length : Int)))
  (.need ((0 : Int) ≤ ((j : Nat) : Int) ∧ (((j : Nat) : Int) : Int) < (x.2.2.2.length : Int)) <|
   .need (j < x.2.2.2.length) <|
   .callH 88 [.c (.ptr 0 0 0 0), .c (.int .i64 (x.2.2.2.getD j tMake.dflt).1)] [.cells 97 [.osl 1 1 at_.length, .bool f], .ovec 3 tI at_, .cells 27 [.int .i64 0, .int .i64 0, .nilsl, .nilsl], .cells 27 [.int .i64 x.1, .int .i64 x.2.1, .osl 4 2 ss.length, .osl 5 4 ms.length], .ovec 116 tVal ss, .ovec 118 tMake ms, .cells 118 [.int .i64 (x.2.2.2.getD j tMake.dflt).1, .int .i64 (x.2.2.2.getD j tMake.dflt).2.1, .int .i64 (x.2.2.2.getD j tMake.dflt).2.2.1, .ro tI (x.2.2.2.getD j tMake.dflt).2.2.2]] (.c (.int .i64 (cutOne at_ (x.2.2.2.getD j tMake.dflt).1).1)) [.cells 97 [.osl 1 1 at_.length, .bool (f && (cutOne at_ (x.2.2.2.getD j tMake.dflt).1).2)], .ovec 3 tI at_, .cells 27 [.int .i64 0, .int .i64 0, .nilsl, .nilsl], .cells 27 [.int .i64 x.1, .int .i64 x.2.1, .osl 4 2 ss.length, .osl 5 4 ms.length], .ovec 116 tVal ss, .ovec 118 tMake ms, .cells 118 [.int .i64 (x.2.2.2.getD j tMake.dflt).1, .int .i64 (x.2.2.2.getD j tMake.dflt).2.1, .int .i64 (x.2.2.2.getD j tMake.dflt).2.2.1, .ro tI (x.2.2.2.getD j tMake.dflt).2.2.2]] [0, 1] <|
   .stop (lp (bodyOf Tryd.f49) 2) (.c (.ptr 0 0 0 0) :: J2 (.junk :: .c (.ptr 2 0 0 0) :: .c (.ptr 3 0 0 0) :: J4 (.c (.ptr 7 0 0 0) :: J16 (J8 (J4 (.c (.ro tMake x.2.2.2) :: .c (.int .i64 (x.2.2.2.length : Int)) :: .c (.int .i64 ((j : Nat) : Int)) :: J8 (J4 (.junk :: .c (.ro tI (x.2.2.2.getD j tMake.dflt).2.2.2) :: .c (.int .i64 ((x.2.2.2.getD j tMake.dflt).2.2.2.length : Int)) :: .c (.int .i64 0) :: J16 (J4 ([])))))))))) [.cells 97 [.osl 1 1 at_.length, .bool (f && (cutOne at_ (x.2.2.2.getD j tMake.dflt).1).2)], .ovec 3 tI at_, .cells 27 [.int .i64 0, .int .i64 0, .nilsl, .nilsl], .cells 27 [.int .i64 x.1, .int .i64 x.2.1, .osl 4 2 ss.length, .osl 5 4 ms.length], .ovec 116 tVal ss, .ovec 118 tMake ms, .cells 118 [.int .i64 (x.2.2.2.getD j tMake.dflt).1, .int .i64 (x.2.2.2.getD j tMake.dflt).2.1, .int .i64 (x.2.2.2.getD j tMake.dflt).2.2.1, .ro tI (x.2.2.2.getD j tMake.dflt).2.2.2], .cells 118 [.int .i64 (cutOne at_ (x.2.2.2.getD j tMake.dflt).1).1, .int .i64 (x.2.2.2.getD j tMake.dflt).2.1, .int .i64 (x.2.2.2.getD j tMake.dflt).2.2.1, .nilsl]])
  (.ret (.agg [.int .i64 x.1, .int .i64 x.2.1, .osl 4 2 ss.length, .osl 5 4 ms.length]) [.cells 97 [.osl 1 1 at_.length, .bool f], .ovec 3 tI at_, .cells 27 [.int .i64 x.1, .int .i64 x.2.1, .osl 4 2 ss.length, .osl 5 4 ms.length], .cells 27 [.int .i64 x.1, .int .i64 x.2.1, .osl 4 2 ss.length, .osl 5 4 ms.length], .ovec 116 tVal ss, .ovec 118 tMake ms])
theorem cexit_l1_R_ok (at_ : List Int) (fine : Bool) (x : EExit) (j : Nat) (f : Bool) (ss : List EVal) (ms : List EMake) : aRound Tryd.prog oc21 Tryd.f49 cexit_lv 3000 (lp (bodyOf Tryd.f49) 1) (.c (.ptr 0 0 0 0) :: J2 (.junk :: .c (.ptr 2 0 0 0) :: .c (.ptr 3 0 0 0) :: J32 (.junk :: .c (.ro tMake x.2.2.2) :: .c (.int .i64 (x.2.2.2.length : Int)) :: .c (.int .i64 ((j : Nat) : Int)) :: J32 (J4 ([]))))) [.cells 97 [.osl 1 1 at_.length, .bool f], .ovec 3 tI at_, .cells 27 [.int .i64 0, .int .i64 0, .nilsl, .nilsl], .cells 27 [.int .i64 x.1, .int .i64 x.2.1, .osl 4 2 ss.length, .osl 5 4 ms.length], .ovec 116 tVal ss, .ovec 118 tMake ms] = cexit_l1_R at_ fine x j f ss ms := by kernel_rfl
noncomputable def cexit_l2_R (at_ : List Int) (fine : Bool) (x : EExit) (k : Nat) (j : Nat) (f : Bool) (ss : List EVal) (ms : List EMake) (vs : List Int) : Tree :=
  .ite (decide (((k : Nat) : Int) < ((x.2.2.2.getD j tMake.dflt).2.2.2.length : Int)))
  (.need ((0 : Int) ≤ ((k : Nat) : Int) ∧ (((k : Nat) : Int) : Int) < ((x.2.2.2.getD j tMake.dflt).2.2.2.length : Int)) <|
   .need (k < (x.2.2.2.getD j tMake.dflt).2.2.2.length) <|
   .callH 88 [.c (.ptr 0 0 0 0), .c (.int .i64 ((x.2.2.2.getD j tMake.dflt).2.2.2.getD k tI.dflt))] [.cells 97 [.osl 1 1 at_.length, .bool f], .ovec 3 tI at_, .cells 27 [.int .i64 0, .int .i64 0, .nilsl, .nilsl], .cells 27 [.int .i64 x.1, .int .i64 x.2.1, .osl 4 2 ss.length, .osl 5 4 ms.length], .ovec 116 tVal ss, .ovec 118 tMake ms, .cells 118 [.int .i64 (cutOne at_ (x.2.2.2.getD j tMake.dflt).1).1, .int .i64 (x.2.2.2.getD j tMake.dflt).2.1, .int .i64 (x.2.2.2.getD j tMake.dflt).2.2.1, .osl 7 1 vs.length], .ovec 3 tI vs] (.c (.int .i64 (cutOne at_ ((x.2.2.2.getD j tMake.dflt).2.2.2.getD k tI.dflt)).1)) [.cells 97 [.osl 1 1 at_.length, .bool (f && (cutOne at_ ((x.2.2.2.getD j tMake.dflt).2.2.2.getD k tI.dflt)).2)], .ovec 3 tI at_, .cells 27 [.int .i64 0, .int .i64 0, .nilsl, .nilsl], .cells 27 [.int .i64 x.1, .int .i64 x.2.1, .osl 4 2 ss.length, .osl 5 4 ms.length], .ovec 116 tVal ss, .ovec 118 tMake ms, .cells 118 [.int .i64 (cutOne at_ (x.2.2.2.getD j tMake.dflt).1).1, .int .i64 (x.2.2.2.getD j tMake.dflt).2.1, .int .i64 (x.2.2.2.getD j tMake.dflt).2.2.1, .osl 7 1 vs.length], .ovec 3 tI vs] [0, 1] <|
   .need (vs.length = vs.length) <|
   .need (0 = 0 ∧ 1 = ([(cutOne at_ ((x.2.2.2.getD j tMake.dflt).2.2.2.getD k tI.dflt)).1]).length) <|
   .need ((vs.length + ([(cutOne at_ ((x.2.2.2.getD j tMake.dflt).2.2.2.getD k tI.dflt)).1]).length) * 8 ≤ 140737488355328) <|
   .need (inR .i64 (((k : Nat) : Int) + 1)) <|
   .stop (lp (bodyOf Tryd.f49) 2) (.c (.ptr 0 0 0 0) :: J2 (.junk :: .c (.ptr 2 0 0 0) :: .c (.ptr 3 0 0 0) :: J4 (.c (.ptr 6 0 0 0) :: J16 (J8 (J4 (.c (.ro tMake x.2.2.2) :: .c (.int .i64 (x.2.2.2.length : Int)) :: .c (.int .i64 ((j : Nat) : Int)) :: J8 (J4 (.junk :: .c (.ro tI (x.2.2.2.getD j tMake.dflt).2.2.2) :: .c (.int .i64 ((x.2.2.2.getD j tMake.dflt).2.2.2.length : Int)) :: .c (.int .i64 (((k : Nat) : Int) + 1)) :: J16 (J4 ([])))))))))) [.cells 97 [.osl 1 1 at_.length, .bool (f && (cutOne at_ ((x.2.2.2.getD j tMake.dflt).2.2.2.getD k tI.dflt)).2)], .ovec 3 tI at_, .cells 27 [.int .i64 0, .int .i64 0, .nilsl, .nilsl], .cells 27 [.int .i64 x.1, .int .i64 x.2.1, .osl 4 2 ss.length, .osl 5 4 ms.length], .ovec 116 tVal ss, .ovec 118 tMake ms, .cells 118 [.int .i64 (cutOne at_ (x.2.2.2.getD j tMake.dflt).1).1, .int .i64 (x.2.2.2.getD j tMake.dflt).2.1, .int .i64 (x.2.2.2.getD j tMake.dflt).2.2.1, .osl 9 1 (vs ++ [(cutOne at_ ((x.2.2.2.getD j tMake.dflt).2.2.2.getD k tI.dflt)).1]).length], .dead, .vec 3 tI ([(cutOne at_ ((x.2.2.2.getD j tMake.dflt).2.2.2.getD k tI.dflt)).1]), .ovec 3 tI (vs ++ [(cutOne at_ ((x.2.2.2.getD j tMake.dflt).2.2.2.getD k tI.dflt)).1])])
  (.need (vs.length = vs.length) <|
   .need (ms.length = ms.length) <|
   .need (0 = 0 ∧ 1 = ([((cutOne at_ (x.2.2.2.getD j tMake.dflt).1).1, ((x.2.2.2.getD j tMake.dflt).2.1, ((x.2.2.2.getD j tMake.dflt).2.2.1, vs)))]).length) <|
   .need ((ms.length + ([((cutOne at_ (x.2.2.2.getD j tMake.dflt).1).1, ((x.2.2.2.getD j tMake.dflt).2.1, ((x.2.2.2.getD j tMake.dflt).2.2.1, vs)))]).length) * 48 ≤ 140737488355328) <|
   .need (inR .i64 (((j : Nat) : Int) + 1)) <|
   .stop (lp (bodyOf Tryd.f49) 1) (.c (.ptr 0 0 0 0) :: J2 (.junk :: .c (.ptr 2 0 0 0) :: .c (.ptr 3 0 0 0) :: J4 (.c (.ptr 6 0 0 0) :: J16 (J8 (J4 (.c (.ro tMake x.2.2.2) :: .c (.int .i64 (x.2.2.2.length : Int)) :: .c (.int .i64 (((j : Nat) : Int) + 1)) :: J8 (J4 (.junk :: .c (.ro tI (x.2.2.2.getD j tMake.dflt).2.2.2) :: .c (.int .i64 ((x.2.2.2.getD j tMake.dflt).2.2.2.length : Int)) :: .c (.int .i64 ((k : Nat) : Int)) :: J16 (J4 ([])))))))))) [.cells 97 [.osl 1 1 at_.length, .bool f], .ovec 3 tI at_, .cells 27 [.int .i64 0, .int .i64 0, .nilsl, .nilsl], .cells 27 [.int .i64 x.1, .int .i64 x.2.1, .osl 4 2 ss.length, .osl 9 4 (ms ++ [((cutOne at_ (x.2.2.2.getD j tMake.dflt).1).1, ((x.2.2.2.getD j tMake.dflt).2.1, ((x.2.2.2.getD j tMake.dflt).2.2.1, vs)))]).length], .ovec 116 tVal ss, .dead, .cells 118 [.int .i64 (cutOne at_ (x.2.2.2.getD j tMake.dflt).1).1, .int .i64 (x.2.2.2.getD j tMake.dflt).2.1, .int .i64 (x.2.2.2.getD j tMake.dflt).2.2.1, .osl 7 1 vs.length], .dead, .vec 118 tMake ([((cutOne at_ (x.2.2.2.getD j tMake.dflt).1).1, ((x.2.2.2.getD j tMake.dflt).2.1, ((x.2.2.2.getD j tMake.dflt).2.2.1, vs)))]), .ovec 118 tMake (ms ++ [((cutOne at_ (x.2.2.2.getD j tMake.dflt).1).1, ((x.2.2.2.getD j tMake.dflt).2.1, ((x.2.2.2.getD j tMake.dflt).2.2.1, vs)))])])
theorem cexit_l2_R_ok (at_ : List Int) (fine : Bool) (x : EExit) (k : Nat) (j : Nat) (f : Bool) (ss : List EVal) (ms : List EMake) (vs : List Int) : aRound Tryd.prog oc21 Tryd.f49 cexit_lv 3000 (lp (bodyOf Tryd.f49) 2) (.c (.ptr 0 0 0 0) :: J2 (.junk :: .c (.ptr 2 0 0 0) :: .c (.ptr 3 0 0 0) :: J4 (.c (.ptr 6 0 0 0) :: J16 (J8 (J4 (.c (.ro tMake x.2.2.2) :: .c (.int .i64 (x.2.2.2.length : Int)) :: .c (.int .i64 ((j : Nat) : Int)) :: J8 (J4 (.junk :: .c (.ro tI (x.2.2.2.getD j tMake.dflt).2.2.2) :: .c (.int .i64 ((x.2.2.2.getD j tMake.dflt).2.2.2.length : Int)) :: .c (.int .i64 ((k : Nat) : Int)) :: J16 (J4 ([])))))))))) [.cells 97 [.osl 1 1 at_.length, .bool f], .ovec 3 tI at_, .cells 27 [.int .i64 0, .int .i64 0, .nilsl, .nilsl], .cells 27 [.int .i64 x.1, .int .i64 x.2.1, .osl 4 2 ss.length, .osl 5 4 ms.length], .ovec 116 tVal ss, .ovec 118 tMake ms, .cells 118 [.int .i64 (cutOne at_ (x.2.2.2.getD j tMake.dflt).1).1, .int .i64 (x.2.2.2.getD j tMake.dflt).2.1, .int .i64 (x.2.2.2.getD j tMake.dflt).2.2.1, .osl 7 1 vs.length], .ovec 3 tI vs] = cexit_l2_R at_ fine x k j f ss ms vs := by kernel_rfl
theorem cexit_l2 (at_ : List Int) (fine : Bool) (x : EExit) (k : Nat) (j : Nat) (f : Bool) (ss : List EVal) (ms : List EMake) (vs : List Int) (hs : exitSm x) (hj : j < x.2.2.2.length ∧ ms.length ≤ j) (hb : vs.length ≤ k) (hn : ∀ (f' : Bool) (ms' : List EMake), ms'.length ≤ j + 1 → RunN 2 Tryd.prog 49 (finQ Tryd.prog 2 (.agg (Ty.enc tExit ((x.1, x.2.1, ss, ms' ++ (x.2.2.2.drop (j + 1)).map (cutMake at_))))) [.cells 97 [.osl 1 1 at_.length, .bool (f' && (x.2.2.2.drop (j + 1)).all (cutMakeOk at_))], .ovec 3 tI at_]) (lp (bodyOf Tryd.f49) 1) (.c (.ptr 0 0 0 0) :: J2 (.junk :: .c (.ptr 2 0 0 0) :: .c (.ptr 3 0 0 0) :: J32 (.junk :: .c (.ro tMake x.2.2.2) :: .c (.int .i64 (x.2.2.2.length : Int)) :: .c (.int .i64 (((j + 1) : Nat) : Int)) :: J32 (J4 ([]))))) [.cells 97 [.osl 1 1 at_.length, .bool f'], .ovec 3 tI at_, .cells 27 [.int .i64 0, .int .i64 0, .nilsl, .nilsl], .cells 27 [.int .i64 x.1, .int .i64 x.2.1, .osl 4 2 ss.length, .osl 5 4 ms'.length], .ovec 116 tVal ss, .ovec 118 tMake ms']) : RunN 2 Tryd.prog 49 (finQ Tryd.prog 2 (.agg (Ty.enc tExit ((x.1, x.2.1, ss, ms ++ ((cutOne at_ (x.2.2.2.getD j tMake.dflt).1).1, (x.2.2.2.getD j tMake.dflt).2.1, (x.2.2.2.getD j tMake.dflt).2.2.1, vs ++ ((x.2.2.2.getD j tMake.dflt).2.2.2.drop k).map (fun v => (cutOne at_ v).1)) :: (x.2.2.2.drop (j + 1)).map (cutMake at_))))) [.cells 97 [.osl 1 1 at_.length, .bool (f && (((x.2.2.2.getD j tMake.dflt).2.2.2.drop k).all (fun v => (cutOne at_ v).2) && (x.2.2.2.drop (j + 1)).all (cutMakeOk at_)))], .ovec 3 tI at_]) (lp (bodyOf Tryd.f49) 2) (.c (.ptr 0 0 0 0) :: J2 (.junk :: .c (.ptr 2 0 0 0) :: .c (.ptr 3 0 0 0) :: J4 (.c (.ptr 6 0 0 0) :: J16 (J8 (J4 (.c (.ro tMake x.2.2.2) :: .c (.int .i64 (x.2.2.2.length : Int)) :: .c (.int .i64 ((j : Nat) : Int)) :: J8 (J4 (.junk :: .c (.ro tI (x.2.2.2.getD j tMake.dflt).2.2.2) :: .c (.int .i64 ((x.2.2.2.getD j tMake.dflt).2.2.2.length : Int)) :: .c (.int .i64 ((k : Nat) : Int)) :: J16 (J4 ([])))))))))) [.cells 97 [.osl 1 1 at_.length, .bool f], .ovec 3 tI at_, .cells 27 [.int .i64 0, .int .i64 0, .nilsl, .nilsl], .cells 27 [.int .i64 x.1, .int .i64 x.2.1, .osl 4 2 ss.length, .osl 5 4 ms.length], .ovec 116 tVal ss, .ovec 118 tMake ms, .cells 118 [.int .i64 (cutOne at_ (x.2.2.2.getD j tMake.dflt).1).1, .int .i64 (x.2.2.2.getD j tMake.dflt).2.1, .int .i64 (x.2.2.2.getD j tMake.dflt).2.2.1, .osl 7 1 vs.length], .ovec 3 tI vs] :=
  Run.roundA oc21 cexit_lv 3000 Tryd.func49 mixed (cexit_l2_R at_ fine x k j f ss ms vs) (cexit_l2_R_ok at_ fine x k j f ss ms vs) (by
    unfold cexit_l2_R
    refine g_iteD (fun h0 => ?_) (fun h0 => ?_)
    · refine g_need (by omega) ?_
      refine g_need (by omega) ?_
      refine g_callH (AFunH.frameB [0, 1] (one_fun at_ f ((x.2.2.2.getD j tMake.dflt).2.2.2.getD k tI.dflt)) rfl rfl rfl rfl rfl rfl rfl) ?_
      refine g_need (rfl) ?_
      refine g_need (⟨rfl, rfl⟩) ?_
      refine g_need (by first | omega | (constructor <;> omega) | (rw [i64_iff]; omega) | (rw [i64_iff]; constructor <;> omega) | rfl | (simp; done) | (have q := hs.2.2 _ (getD_mem (α := EMake) (Ty.dflt tMake) (by omega : j < x.2.2.2.length)); have q1 := hs.1; have q2 := hs.2.1; (try simp only [List.length_cons, List.length_nil]); first | omega | (rw [i64_iff]; omega))) ?_
      refine g_need (by first | omega | (constructor <;> omega) | (rw [i64_iff]; omega) | (rw [i64_iff]; constructor <;> omega) | rfl | (simp; done) | (have q := hs.2.2 _ (getD_mem (α := EMake) (Ty.dflt tMake) (by omega : j < x.2.2.2.length)); have q1 := hs.1; have q2 := hs.2.1; (try simp only [List.length_cons, List.length_nil]); first | omega | (rw [i64_iff]; omega))) ?_
      refine g_stop (RunN.keep [0, 1, 2, 3, 4, 5, 6, 9] (true :: F2 (false :: true :: true :: F4 (true :: F16 (F8 (F4 (true :: true :: true :: F8 (F4 (false :: true :: true :: true :: F16 (F4 ([])))))))))) (show ∀ k, k < 2 → ([0, 1, 2, 3, 4, 5, 6, 9] : List Nat)[k]? = some k by decide) (by decide) rfl rfl ?_)
      have := cexit_l2 at_ fine x (k + 1) j (f && (cutOne at_ ((x.2.2.2.getD j tMake.dflt).2.2.2.getD k tI.dflt)).2) ss ms (vs ++ [(cutOne at_ ((x.2.2.2.getD j tMake.dflt).2.2.2.getD k tI.dflt)).1]) hs hj (by simp; omega) hn; have e1 : vs ++ ((x.2.2.2.getD j tMake.dflt).2.2.2.drop k).map (fun v => (cutOne at_ v).1) = (vs ++ [(cutOne at_ ((x.2.2.2.getD j tMake.dflt).2.2.2.getD k tI.dflt)).1]) ++ ((x.2.2.2.getD j tMake.dflt).2.2.2.drop (k + 1)).map (fun v => (cutOne at_ v).1) := (by rw [dropCons (α := Int) (Ty.dflt tI) (by omega)]; simp); have e2 : (f && (((x.2.2.2.getD j tMake.dflt).2.2.2.drop k).all (fun v => (cutOne at_ v).2) && (x.2.2.2.drop (j + 1)).all (cutMakeOk at_))) = ((f && (cutOne at_ ((x.2.2.2.getD j tMake.dflt).2.2.2.getD k tI.dflt)).2) && (((x.2.2.2.getD j tMake.dflt).2.2.2.drop (k + 1)).all (fun v => (cutOne at_ v).2) && (x.2.2.2.drop (j + 1)).all (cutMakeOk at_))) := (by rw [dropCons (α := Int) (Ty.dflt tI) (by omega), List.all_cons]; simp only [Bool.and_assoc]); rw [e1, e2]; exact this
    · refine g_need (rfl) ?_
      refine g_need (rfl) ?_
      refine g_need (⟨rfl, rfl⟩) ?_
      refine g_need (by first | omega | (constructor <;> omega) | (rw [i64_iff]; omega) | (rw [i64_iff]; constructor <;> omega) | rfl | (simp; done) | (have q := hs.2.2 _ (getD_mem (α := EMake) (Ty.dflt tMake) (by omega : j < x.2.2.2.length)); have q1 := hs.1; have q2 := hs.2.1; (try simp only [List.length_cons, List.length_nil]); first | omega | (rw [i64_iff]; omega))) ?_
      refine g_need (by first | omega | (constructor <;> omega) | (rw [i64_iff]; omega) | (rw [i64_iff]; constructor <;> omega) | rfl | (simp; done) | (have q := hs.2.2 _ (getD_mem (α := EMake) (Ty.dflt tMake) (by omega : j < x.2.2.2.length)); have q1 := hs.1; have q2 := hs.2.1; (try simp only [List.length_cons, List.length_nil]); first | omega | (rw [i64_iff]; omega))) ?_
      refine g_stop (RunN.keep [0, 1, 2, 3, 4, 9] (true :: F2 (false :: true :: true :: F32 (false :: true :: true :: true :: F32 (F4 ([]))))) (show ∀ k, k < 2 → ([0, 1, 2, 3, 4, 9] : List Nat)[k]? = some k by decide) (by decide) rfl rfl ?_)
      have := hn f (ms ++ [((cutOne at_ (x.2.2.2.getD j tMake.dflt).1).1, (x.2.2.2.getD j tMake.dflt).2.1, (x.2.2.2.getD j tMake.dflt).2.2.1, vs)]) (by simp; omega); rw [show (x.2.2.2.getD j tMake.dflt).2.2.2.drop k = [] from List.drop_eq_nil_of_le (by omega), List.map_nil, List.append_nil, List.all_nil, Bool.true_and]; rw [List.append_assoc, List.singleton_append] at this; exact this
    )
  termination_by (x.2.2.2.getD j tMake.dflt).2.2.2.length - k
  decreasing_by all_goals omega
theorem cexit_l1 (at_ : List Int) (fine : Bool) (x : EExit) (j : Nat) (f : Bool) (ss : List EVal) (ms : List EMake) (hs : exitSm x) (hm : ms.length ≤ j) : RunN 2 Tryd.prog 49 (finQ Tryd.prog 2 (.agg (Ty.enc tExit ((x.1, x.2.1, ss, ms ++ (x.2.2.2.drop j).map (cutMake at_))))) [.cells 97 [.osl 1 1 at_.length, .bool (f && (x.2.2.2.drop j).all (cutMakeOk at_))], .ovec 3 tI at_]) (lp (bodyOf Tryd.f49) 1) (.c (.ptr 0 0 0 0) :: J2 (.junk :: .c (.ptr 2 0 0 0) :: .c (.ptr 3 0 0 0) :: J32 (.junk :: .c (.ro tMake x.2.2.2) :: .c (.int .i64 (x.2.2.2.length : Int)) :: .c (.int .i64 ((j : Nat) : Int)) :: J32 (J4 ([]))))) [.cells 97 [.osl 1 1 at_.length, .bool f], .ovec 3 tI at_, .cells 27 [.int .i64 0, .int .i64 0, .nilsl, .nilsl], .cells 27 [.int .i64 x.1, .int .i64 x.2.1, .osl 4 2 ss.length, .osl 5 4 ms.length], .ovec 116 tVal ss, .ovec 118 tMake ms] :=
  Run.roundA oc21 cexit_lv 3000 Tryd.func49 mixed (cexit_l1_R at_ fine x j f ss ms) (cexit_l1_R_ok at_ fine x j f ss ms) (by
    unfold cexit_l1_R
    refine g_iteD (fun h0 => ?_) (fun h0 => ?_)
    · refine g_need (by omega) ?_
      refine g_need (by omega) ?_
      refine g_callH (AFunH.frameB [0, 1] (one_fun at_ f (x.2.2.2.getD j tMake.dflt).1) rfl rfl rfl rfl rfl rfl rfl) ?_
      refine g_stop (RunN.keep [0, 1, 2, 3, 4, 5, 7, 1007] (true :: F2 (false :: true :: true :: F4 (true :: F16 (F8 (F4 (true :: true :: true :: F8 (F4 (false :: true :: true :: true :: F16 (F4 ([])))))))))) (show ∀ k, k < 2 → ([0, 1, 2, 3, 4, 5, 7, 1007] : List Nat)[k]? = some k by decide) (by decide) rfl rfl ?_)
      refine RunN.less (env' := (.c (.ptr 0 0 0 0) :: J2 (.junk :: .c (.ptr 2 0 0 0) :: .c (.ptr 3 0 0 0) :: J4 (.c (.ptr 6 0 0 0) :: J16 (J8 (J4 (.c (.ro tMake x.2.2.2) :: .c (.int .i64 (x.2.2.2.length : Int)) :: .c (.int .i64 ((j : Nat) : Int)) :: J8 (J4 (.junk :: .c (.ro tI (x.2.2.2.getD j tMake.dflt).2.2.2) :: .c (.int .i64 ((x.2.2.2.getD j tMake.dflt).2.2.2.length : Int)) :: .c (.int .i64 ((0 : Nat) : Int)) :: J16 (J4 ([]))))))))))) (H' := [.cells 97 [.osl 1 1 at_.length, .bool (f && (cutOne at_ (x.2.2.2.getD j tMake.dflt).1).2)], .ovec 3 tI at_, .cells 27 [.int .i64 0, .int .i64 0, .nilsl, .nilsl], .cells 27 [.int .i64 x.1, .int .i64 x.2.1, .osl 4 2 ss.length, .osl 5 4 ms.length], .ovec 116 tVal ss, .ovec 118 tMake ms, .cells 118 [.int .i64 (cutOne at_ (x.2.2.2.getD j tMake.dflt).1).1, .int .i64 (x.2.2.2.getD j tMake.dflt).2.1, .int .i64 (x.2.2.2.getD j tMake.dflt).2.2.1, .osl 7 1 0], .ovec 3 tI ([])]) (leAVs.same rfl) (⟨leB.refl _, leB.refl _, leB.refl _, leB.refl _, leB.refl _, leB.refl _, ⟨rfl, leC.refl _, leC.refl _, leC.refl _, rfl, trivial⟩, rfl, trivial⟩) ?_
      have ht := cexit_l2 at_ fine x 0 j (f && (cutOne at_ (x.2.2.2.getD j tMake.dflt).1).2) ss ms ([]) hs ⟨by omega, hm⟩ (by simp) (fun f' ms' hq => cexit_l1 at_ fine x (j + 1) f' ss ms' hs hq); have e1 : ms ++ (x.2.2.2.drop j).map (cutMake at_) = ms ++ ((cutOne at_ (x.2.2.2.getD j tMake.dflt).1).1, (x.2.2.2.getD j tMake.dflt).2.1, (x.2.2.2.getD j tMake.dflt).2.2.1, [] ++ ((x.2.2.2.getD j tMake.dflt).2.2.2.drop 0).map (fun v => (cutOne at_ v).1)) :: (x.2.2.2.drop (j + 1)).map (cutMake at_) := (by rw [dropCons (α := EMake) (Ty.dflt tMake) (by omega : j < x.2.2.2.length)]; rfl); have e2 : (f && (x.2.2.2.drop j).all (cutMakeOk at_)) = ((f && (cutOne at_ (x.2.2.2.getD j tMake.dflt).1).2) && (((x.2.2.2.getD j tMake.dflt).2.2.2.drop 0).all (fun v => (cutOne at_ v).2) && (x.2.2.2.drop (j + 1)).all (cutMakeOk at_))) := (by rw [dropCons (α := EMake) (Ty.dflt tMake) (by omega : j < x.2.2.2.length), List.all_cons]; simp only [cutMakeOk, Bool.and_assoc, List.drop_zero]); rw [e1, e2]; exact ht
    · refine g_fin ?_
      refine g_need (rfl) ?_
      refine g_need (rfl) ?_
      exact g_end [0, 1] (show ∀ k, k < 2 → ([0, 1] : List Nat)[k]? = some k by decide) (by decide) (⟨⟨rfl, (show (x.1 : Int) = (x.1, x.2.1, ss, ms ++ (x.2.2.2.drop j).map (cutMake at_)).1 from by first | rfl | (rw [List.drop_eq_nil_of_le (by omega)]; simp; done))⟩, ⟨rfl, (show (x.2.1 : Int) = (x.1, x.2.1, ss, ms ++ (x.2.2.2.drop j).map (cutMake at_)).2.1 from by first | rfl | (rw [List.drop_eq_nil_of_le (by omega)]; simp; done))⟩, ⟨rfl, (show (ss) = (x.1, x.2.1, ss, ms ++ (x.2.2.2.drop j).map (cutMake at_)).2.2.1 from by first | rfl | (rw [List.drop_eq_nil_of_le (by omega)]; simp; done))⟩, ⟨rfl, (show (ms) = (x.1, x.2.1, ss, ms ++ (x.2.2.2.drop j).map (cutMake at_)).2.2.2 from by first | rfl | (rw [List.drop_eq_nil_of_le (by omega)]; simp; done))⟩, trivial⟩) ⟨⟨rfl, leC.refl _, (show (f : Bool) = (f && (x.2.2.2.drop j).all (cutMakeOk at_)) from by first | rfl | (rw [List.drop_eq_nil_of_le (by omega)]; simp; done)), trivial⟩, leB.refl _, trivial⟩
    )
  termination_by x.2.2.2.length - j
  decreasing_by all_goals omega
theorem cexit_l0 (at_ : List Int) (fine : Bool) (x : EExit) (i : Nat) (f : Bool) (ss : List EVal) (hs : exitSm x) (hm : ss.length ≤ i) : RunN 2 Tryd.prog 49 (finQ Tryd.prog 2 (.agg (Ty.enc tExit ((x.1, x.2.1, ss ++ (x.2.2.1.drop i).map (cutSet at_), x.2.2.2.map (cutMake at_))))) [.cells 97 [.osl 1 1 at_.length, .bool (f && ((x.2.2.1.drop i).all (cutSetOk at_) && x.2.2.2.all (cutMakeOk at_)))], .ovec 3 tI at_]) (lp (bodyOf Tryd.f49) 0) (.c (.ptr 0 0 0 0) :: J2 (.c (.ptr 2 0 0 0) :: .c (.ptr 3 0 0 0) :: .c (.ptr 4 0 0 0) :: J8 (J4 (.junk :: .c (.ro tVal x.2.2.1) :: .c (.int .i64 (x.2.2.1.length : Int)) :: .c (.int .i64 ((i : Nat) : Int)) :: J32 (J16 (J8 ([]))))))) [.cells 97 [.osl 1 1 at_.length, .bool f], .ovec 3 tI at_, .cells 27 (Ty.enc tExit x), .cells 27 [.int .i64 0, .int .i64 0, .nilsl, .nilsl], .cells 27 [.int .i64 x.1, .int .i64 x.2.1, .osl 5 2 ss.length, .nilsl], .ovec 116 tVal ss] :=
  Run.roundA oc21 cexit_lv 3000 Tryd.func49 mixed (cexit_l0_R at_ fine x i f ss) (cexit_l0_R_ok at_ fine x i f ss) (by
    unfold cexit_l0_R
    refine g_iteD (fun h0 => ?_) (fun h0 => ?_)
    · refine g_need (by omega) ?_
      refine g_need (by omega) ?_
      refine g_callH (AFunH.frameB [0, 1] (one_fun at_ f (x.2.2.1.getD i tVal.dflt).2) rfl rfl rfl rfl rfl rfl rfl) ?_
      refine g_need (rfl) ?_
      refine g_need (⟨rfl, rfl⟩) ?_
      refine g_need (by first | omega | (constructor <;> omega) | (rw [i64_iff]; omega) | (rw [i64_iff]; constructor <;> omega) | rfl | (simp; done) | (have q1 := hs.1; have q2 := hs.2.1; (try simp only [List.length_cons, List.length_nil]); first | omega | (rw [i64_iff]; omega))) ?_
      refine g_need (by first | omega | (constructor <;> omega) | (rw [i64_iff]; omega) | (rw [i64_iff]; constructor <;> omega) | rfl | (simp; done) | (have q1 := hs.1; have q2 := hs.2.1; (try simp only [List.length_cons, List.length_nil]); first | omega | (rw [i64_iff]; omega))) ?_
      refine g_stop (RunN.keep [0, 1, 2, 3, 4, 8] (true :: F2 (true :: true :: true :: F8 (F4 (false :: true :: true :: true :: F32 (F16 (F8 ([]))))))) (show ∀ k, k < 2 → ([0, 1, 2, 3, 4, 8] : List Nat)[k]? = some k by decide) (by decide) rfl rfl ?_)
      have ht := cexit_l0 at_ fine x (i + 1) (f && (cutOne at_ (x.2.2.1.getD i tVal.dflt).2).2) (ss ++ [((x.2.2.1.getD i tVal.dflt).1, (cutOne at_ (x.2.2.1.getD i tVal.dflt).2).1)]) hs (by simp; omega); have e1 : ss ++ (x.2.2.1.drop i).map (cutSet at_) = (ss ++ [cutSet at_ (x.2.2.1.getD i tVal.dflt)]) ++ (x.2.2.1.drop (i + 1)).map (cutSet at_) := (by rw [dropCons (α := EVal) (Ty.dflt tVal) (by omega)]; simp); have e2 : (f && ((x.2.2.1.drop i).all (cutSetOk at_) && x.2.2.2.all (cutMakeOk at_))) = ((f && (cutOne at_ (x.2.2.1.getD i tVal.dflt).2).2) && ((x.2.2.1.drop (i + 1)).all (cutSetOk at_) && x.2.2.2.all (cutMakeOk at_))) := (by rw [dropCons (α := EVal) (Ty.dflt tVal) (by omega), List.all_cons]; simp only [cutSetOk, Bool.and_assoc]); rw [e1, e2]; exact ht
    · refine g_stop (RunN.keep [0, 1, 3, 4, 5, 1005] (true :: F2 (false :: true :: true :: F32 (false :: true :: true :: true :: F32 (F4 ([]))))) (show ∀ k, k < 2 → ([0, 1, 3, 4, 5, 1005] : List Nat)[k]? = some k by decide) (by decide) rfl rfl ?_)
      refine RunN.less (env' := (.c (.ptr 0 0 0 0) :: J2 (.junk :: .c (.ptr 2 0 0 0) :: .c (.ptr 3 0 0 0) :: J32 (.junk :: .c (.ro tMake x.2.2.2) :: .c (.int .i64 (x.2.2.2.length : Int)) :: .c (.int .i64 ((0 : Nat) : Int)) :: J32 (J4 ([])))))) (H' := [.cells 97 [.osl 1 1 at_.length, .bool f], .ovec 3 tI at_, .cells 27 [.int .i64 0, .int .i64 0, .nilsl, .nilsl], .cells 27 [.int .i64 x.1, .int .i64 x.2.1, .osl 4 2 ss.length, .osl 5 4 0], .ovec 116 tVal ss, .ovec 118 tMake ([])]) (leAVs.same rfl) (⟨leB.refl _, leB.refl _, leB.refl _, ⟨rfl, leC.refl _, leC.refl _, leC.refl _, rfl, trivial⟩, leB.refl _, rfl, trivial⟩) ?_
      have ht := cexit_l1 at_ fine x 0 f ss ([]) hs (by simp); rw [List.drop_zero, List.nil_append] at ht; rw [show x.2.2.1.drop i = [] from List.drop_eq_nil_of_le (by omega), List.map_nil, List.append_nil, List.all_nil, Bool.true_and]; exact ht
    )
  termination_by x.2.2.1.length - i
  decreasing_by all_goals omega
theorem cexit_fun (at_ : List Int) (fine : Bool) (x : EExit) (hs : exitSm x) : AFunH Tryd.prog 49 [.c (.ptr 0 0 0 0), .agg (tExit.enc x)] [.cells 97 [.osl 1 1 at_.length, .bool fine], .ovec 3 tI at_] (.agg (Ty.enc tExit (cutExit at_ x))) [.cells 97 [.osl 1 1 at_.length, .bool (fine && cutExitOk at_ x)], .ovec 3 tI at_] (List.range 2) :=
  AFunH.ofL oc21 cexit_lv 3000 Tryd.func49 mixed rfl (by decide) (Nat.le_of_ble_eq_true rfl) rfl rfl (Nat.le_of_ble_eq_true rfl) _ (cexit_T_ok at_ fine x) fun hF => by
    unfold cexit_T
    refine g_stop (RunN.keep [0, 1, 2, 3, 4, 1005] (true :: F2 (true :: true :: true :: F8 (F4 (false :: true :: true :: true :: F32 (F16 (F8 ([]))))))) (show ∀ k, k < 2 → ([0, 1, 2, 3, 4, 1005] : List Nat)[k]? = some k by decide) (by decide) rfl rfl ?_)
    refine RunN.less (env' := (.c (.ptr 0 0 0 0) :: J2 (.c (.ptr 2 0 0 0) :: .c (.ptr 3 0 0 0) :: .c (.ptr 4 0 0 0) :: J8 (J4 (.junk :: .c (.ro tVal x.2.2.1) :: .c (.int .i64 (x.2.2.1.length : Int)) :: .c (.int .i64 ((0 : Nat) : Int)) :: J32 (J16 (J8 ([])))))))) (H' := [.cells 97 [.osl 1 1 at_.length, .bool fine], .ovec 3 tI at_, .cells 27 (Ty.enc tExit x), .cells 27 [.int .i64 0, .int .i64 0, .nilsl, .nilsl], .cells 27 [.int .i64 x.1, .int .i64 x.2.1, .osl 5 2 0, .nilsl], .ovec 116 tVal ([])]) (leAVs.same rfl) (⟨leB.refl _, leB.refl _, leB.refl _, leB.refl _, ⟨rfl, leC.refl _, leC.refl _, rfl, leC.refl _, trivial⟩, rfl, trivial⟩) ?_
    exact cexit_l0 at_ fine x 0 fine ([]) hs (by simp)

def stepV (at_ : List Int) (n k v : Int) : Int := if k < n then (cutOne at_ v).1 else v
def stepOk (at_ : List Int) (n k v : Int) : Bool := if k < n then (cutOne at_ v).2 else true
def cutAsks (op : Int) : Int := if (ofF op).2 = true then (ofF op).1.1 else 0
def cutIns (at_ : List Int) (x : EIns) : EIns := (x.1, stepV at_ (cutAsks x.1) 0 x.2.1, stepV at_ (cutAsks x.1) 1 x.2.2.1, stepV at_ (cutAsks x.1) 2 x.2.2.2.1, x.2.2.2.2)
def cutInsOk (at_ : List Int) (x : EIns) : Bool := stepOk at_ (cutAsks x.1) 0 x.2.1 && (stepOk at_ (cutAsks x.1) 1 x.2.2.1 && stepOk at_ (cutAsks x.1) 2 x.2.2.2.1)
noncomputable def oc22 : Orc where
  pure := fun f args => match f, args with
    | 43, [a0] => match dA tI a0 with
      | some x0 => some (.tup [.agg (Ty.enc tForm ((ofF x0).1)), .c (.bool ((ofF x0).2))])
      | _ => none
    | _, _ => none
  heap := fun f args H => match f, args with
    | 88, [.one (.c (.ptr b0 0 0 0)), a1] => match cellsAs 97 H[b0]? with
      | some [.osl b1 1 _, c0_1] => (match dA tI a1, dC .bool c0_1, ovecAs 3 tI H[b1]? with
        | some x1, some y0_1, some y1 => hres [b0, b1] H (.c (.int .i64 ((cutOne y1 x1).1))) [.cells 97 [.osl 1 1 y1.length, .bool (y0_1 && (cutOne y1 x1).2)], .ovec 3 tI y1]
        | _, _, _ => none)
      | _ => none
    | _, _ => none
def cins_lv : LV := ⟨(true :: F2 (true :: true :: F16 (F2 (true :: true :: true :: F8 (F4 ([])))))), []⟩
noncomputable def cins_T (at_ : List Int) (fine : Bool) (x : EIns) : Tree :=
  .call 43 [.c (.int .i64 x.1)] false (.tup [.agg [.int .i64 (ofF x.1).1.1, .int .i64 (ofF x.1).1.2.1, .int .i64 (ofF x.1).1.2.2.1, .bool (ofF x.1).1.2.2.2.1, .bool (ofF x.1).1.2.2.2.2.1, .int .i64 (ofF x.1).1.2.2.2.2.2], .c (.bool (ofF x.1).2)]) <|
  .ite ((ofF x.1).2)
  (.need ((0 : Int) ≤ (ofF x.1).1.1 ∧ ((ofF x.1).1.1 : Int) ≤ ((3 : Nat) : Int)) <|
   .stop (lp (bodyOf Tryd.f48) 0) (.c (.ptr 0 0 0 0) :: J2 (.c (.ptr 2 0 0 0) :: .c (.ptr 3 0 0 0) :: J16 (J2 (.c (.pre 5 1 (Int.toNat (ofF x.1).1.1)) :: .c (.int .i64 (((Int.toNat (ofF x.1).1.1) : Nat) : Int)) :: .c (.int .i64 0) :: J8 (J4 ([])))))) [.cells 97 [.osl 1 1 at_.length, .bool fine], .ovec 3 tI at_, .cells 46 (Ty.enc tIns x), .cells 46 [.int .i64 0, .int .i64 0, .int .i64 0, .int .i64 0, .int .i64 0, .int .i64 0, .int .i64 0, .int .i64 0], .cells 88 [.int .i64 (ofF x.1).1.1, .int .i64 (ofF x.1).1.2.1, .int .i64 (ofF x.1).1.2.2.1, .bool (ofF x.1).1.2.2.2.1, .bool (ofF x.1).1.2.2.2.2.1, .int .i64 (ofF x.1).1.2.2.2.2.2], .cells 156 [.ptr 2 0 0 1, .ptr 2 0 0 2, .ptr 2 0 0 3]])
  (.ret (.agg (Ty.enc tIns x)) [.cells 97 [.osl 1 1 at_.length, .bool fine], .ovec 3 tI at_, .cells 46 (Ty.enc tIns x), .cells 46 (Ty.enc tIns x), .cells 88 [.int .i64 (ofF x.1).1.1, .int .i64 (ofF x.1).1.2.1, .int .i64 (ofF x.1).1.2.2.1, .bool (ofF x.1).1.2.2.2.1, .bool (ofF x.1).1.2.2.2.2.1, .int .i64 (ofF x.1).1.2.2.2.2.2], .cells 156 [.ptr 2 0 0 1, .ptr 2 0 0 2, .ptr 2 0 0 3]])
theorem cins_T_ok (at_ : List Int) (fine : Bool) (x : EIns) : aRun Tryd.prog oc22 Tryd.f48 cins_lv 3000 [.code (bodyOf Tryd.f48)] ([.c (.ptr 0 0 0 0), .agg (tIns.enc x)] ++ List.replicate (Func.ntmps Tryd.f48 - 2) .junk) [.cells 97 [.osl 1 1 at_.length, .bool fine], .ovec 3 tI at_] = cins_T at_ fine x := by kernel_rfl
noncomputable def cins_i3_R (at_ : List Int) (fine : Bool) (x : EIns) (f : Bool) (a0 : Int) (a1 : Int) (a2 : Int) : Tree :=
  .ite (decide ((3 : Int) < (((Int.toNat (ofF x.1).1.1) : Nat) : Int)))
  (.need ((0 : Int) ≤ 3 ∧ (3 : Int) < (((Int.toNat (ofF x.1).1.1) : Nat) : Int)) <|
   .fail 10)
  (.ret (.agg [.int .i64 x.1, .int .i64 a0, .int .i64 a1, .int .i64 a2, .int .i64 x.2.2.2.2.1, .int .i64 x.2.2.2.2.2.1, .int .i64 x.2.2.2.2.2.2.1, .int .i64 x.2.2.2.2.2.2.2]) [.cells 97 [.osl 1 1 at_.length, .bool f], .ovec 3 tI at_, .cells 46 [.int .i64 x.1, .int .i64 a0, .int .i64 a1, .int .i64 a2, .int .i64 x.2.2.2.2.1, .int .i64 x.2.2.2.2.2.1, .int .i64 x.2.2.2.2.2.2.1, .int .i64 x.2.2.2.2.2.2.2], .cells 46 [.int .i64 x.1, .int .i64 a0, .int .i64 a1, .int .i64 a2, .int .i64 x.2.2.2.2.1, .int .i64 x.2.2.2.2.2.1, .int .i64 x.2.2.2.2.2.2.1, .int .i64 x.2.2.2.2.2.2.2], .cells 156 [.ptr 2 0 0 1, .ptr 2 0 0 2, .ptr 2 0 0 3]])
theorem cins_i3_R_ok (at_ : List Int) (fine : Bool) (x : EIns) (f : Bool) (a0 : Int) (a1 : Int) (a2 : Int) : aRound Tryd.prog oc22 Tryd.f48 cins_lv 3000 (lp (bodyOf Tryd.f48) 0) (.c (.ptr 0 0 0 0) :: J2 (.c (.ptr 2 0 0 0) :: .c (.ptr 3 0 0 0) :: J16 (J2 (.c (.pre 4 1 (Int.toNat (ofF x.1).1.1)) :: .c (.int .i64 (((Int.toNat (ofF x.1).1.1) : Nat) : Int)) :: .c (.int .i64 3) :: J8 (J4 ([])))))) [.cells 97 [.osl 1 1 at_.length, .bool f], .ovec 3 tI at_, .cells 46 [.int .i64 x.1, .int .i64 a0, .int .i64 a1, .int .i64 a2, .int .i64 x.2.2.2.2.1, .int .i64 x.2.2.2.2.2.1, .int .i64 x.2.2.2.2.2.2.1, .int .i64 x.2.2.2.2.2.2.2], .cells 46 [.int .i64 0, .int .i64 0, .int .i64 0, .int .i64 0, .int .i64 0, .int .i64 0, .int .i64 0, .int .i64 0], .cells 156 [.ptr 2 0 0 1, .ptr 2 0 0 2, .ptr 2 0 0 3]] = cins_i3_R at_ fine x f a0 a1 a2 := by kernel_rfl
noncomputable def cins_i2_R (at_ : List Int) (fine : Bool) (x : EIns) (f : Bool) (a0 : Int) (a1 : Int) (a2 : Int) : Tree :=
  .ite (decide ((2 : Int) < (((Int.toNat (ofF x.1).1.1) : Nat) : Int)))
  (.need ((0 : Int) ≤ 2 ∧ (2 : Int) < (((Int.toNat (ofF x.1).1.1) : Nat) : Int)) <|
   .callH 88 [.c (.ptr 0 0 0 0), .c (.int .i64 a2)] [.cells 97 [.osl 1 1 at_.length, .bool f], .ovec 3 tI at_, .cells 46 [.int .i64 x.1, .int .i64 a0, .int .i64 a1, .int .i64 a2, .int .i64 x.2.2.2.2.1, .int .i64 x.2.2.2.2.2.1, .int .i64 x.2.2.2.2.2.2.1, .int .i64 x.2.2.2.2.2.2.2], .cells 46 [.int .i64 0, .int .i64 0, .int .i64 0, .int .i64 0, .int .i64 0, .int .i64 0, .int .i64 0, .int .i64 0], .cells 156 [.ptr 2 0 0 1, .ptr 2 0 0 2, .ptr 2 0 0 3]] (.c (.int .i64 (cutOne at_ a2).1)) [.cells 97 [.osl 1 1 at_.length, .bool (f && (cutOne at_ a2).2)], .ovec 3 tI at_, .cells 46 [.int .i64 x.1, .int .i64 a0, .int .i64 a1, .int .i64 a2, .int .i64 x.2.2.2.2.1, .int .i64 x.2.2.2.2.2.1, .int .i64 x.2.2.2.2.2.2.1, .int .i64 x.2.2.2.2.2.2.2], .cells 46 [.int .i64 0, .int .i64 0, .int .i64 0, .int .i64 0, .int .i64 0, .int .i64 0, .int .i64 0, .int .i64 0], .cells 156 [.ptr 2 0 0 1, .ptr 2 0 0 2, .ptr 2 0 0 3]] [0, 1] <|
   .need (inR .i64 (2 + 1)) <|
   .stop (lp (bodyOf Tryd.f48) 0) (.c (.ptr 0 0 0 0) :: J2 (.c (.ptr 2 0 0 0) :: .c (.ptr 3 0 0 0) :: J16 (J2 (.c (.pre 4 1 (Int.toNat (ofF x.1).1.1)) :: .c (.int .i64 (((Int.toNat (ofF x.1).1.1) : Nat) : Int)) :: .c (.int .i64 (2 + 1)) :: J8 (J4 ([])))))) [.cells 97 [.osl 1 1 at_.length, .bool (f && (cutOne at_ a2).2)], .ovec 3 tI at_, .cells 46 [.int .i64 x.1, .int .i64 a0, .int .i64 a1, .int .i64 (cutOne at_ a2).1, .int .i64 x.2.2.2.2.1, .int .i64 x.2.2.2.2.2.1, .int .i64 x.2.2.2.2.2.2.1, .int .i64 x.2.2.2.2.2.2.2], .cells 46 [.int .i64 0, .int .i64 0, .int .i64 0, .int .i64 0, .int .i64 0, .int .i64 0, .int .i64 0, .int .i64 0], .cells 156 [.ptr 2 0 0 1, .ptr 2 0 0 2, .ptr 2 0 0 3]])
  (.ret (.agg [.int .i64 x.1, .int .i64 a0, .int .i64 a1, .int .i64 a2, .int .i64 x.2.2.2.2.1, .int .i64 x.2.2.2.2.2.1, .int .i64 x.2.2.2.2.2.2.1, .int .i64 x.2.2.2.2.2.2.2]) [.cells 97 [.osl 1 1 at_.length, .bool f], .ovec 3 tI at_, .cells 46 [.int .i64 x.1, .int .i64 a0, .int .i64 a1, .int .i64 a2, .int .i64 x.2.2.2.2.1, .int .i64 x.2.2.2.2.2.1, .int .i64 x.2.2.2.2.2.2.1, .int .i64 x.2.2.2.2.2.2.2], .cells 46 [.int .i64 x.1, .int .i64 a0, .int .i64 a1, .int .i64 a2, .int .i64 x.2.2.2.2.1, .int .i64 x.2.2.2.2.2.1, .int .i64 x.2.2.2.2.2.2.1, .int .i64 x.2.2.2.2.2.2.2], .cells 156 [.ptr 2 0 0 1, .ptr 2 0 0 2, .ptr 2 0 0 3]])
theorem cins_i2_R_ok (at_ : List Int) (fine : Bool) (x : EIns) (f : Bool) (a0 : Int) (a1 : Int) (a2 : Int) : aRound Tryd.prog oc22 Tryd.f48 cins_lv 3000 (lp (bodyOf Tryd.f48) 0) (.c (.ptr 0 0 0 0) :: J2 (.c (.ptr 2 0 0 0) :: .c (.ptr 3 0 0 0) :: J16 (J2 (.c (.pre 4 1 (Int.toNat (ofF x.1).1.1)) :: .c (.int .i64 (((Int.toNat (ofF x.1).1.1) : Nat) : Int)) :: .c (.int .i64 2) :: J8 (J4 ([])))))) [.cells 97 [.osl 1 1 at_.length, .bool f], .ovec 3 tI at_, .cells 46 [.int .i64 x.1, .int .i64 a0, .int .i64 a1, .int .i64 a2, .int .i64 x.2.2.2.2.1, .int .i64 x.2.2.2.2.2.1, .int .i64 x.2.2.2.2.2.2.1, .int .i64 x.2.2.2.2.2.2.2], .cells 46 [.int .i64 0, .int .i64 0, .int .i64 0, .int .i64 0, .int .i64 0, .int .i64 0, .int .i64 0, .int .i64 0], .cells 156 [.ptr 2 0 0 1, .ptr 2 0 0 2, .ptr 2 0 0 3]] = cins_i2_R at_ fine x f a0 a1 a2 := by kernel_rfl
noncomputable def cins_i1_R (at_ : List Int) (fine : Bool) (x : EIns) (f : Bool) (a0 : Int) (a1 : Int) (a2 : Int) : Tree :=
  .ite (decide ((1 : Int) < (((Int.toNat (ofF x.1).1.1) : Nat) : Int)))
  (.need ((0 : Int) ≤ 1 ∧ (1 : Int) < (((Int.toNat (ofF x.1).1.1) : Nat) : Int)) <|
   .callH 88 [.c (.ptr 0 0 0 0), .c (.int .i64 a1)] [.cells 97 [.osl 1 1 at_.length, .bool f], .ovec 3 tI at_, .cells 46 [.int .i64 x.1, .int .i64 a0, .int .i64 a1, .int .i64 a2, .int .i64 x.2.2.2.2.1, .int .i64 x.2.2.2.2.2.1, .int .i64 x.2.2.2.2.2.2.1, .int .i64 x.2.2.2.2.2.2.2], .cells 46 [.int .i64 0, .int .i64 0, .int .i64 0, .int .i64 0, .int .i64 0, .int .i64 0, .int .i64 0, .int .i64 0], .cells 156 [.ptr 2 0 0 1, .ptr 2 0 0 2, .ptr 2 0 0 3]] (.c (.int .i64 (cutOne at_ a1).1)) [.cells 97 [.osl 1 1 at_.length, .bool (f && (cutOne at_ a1).2)], .ovec 3 tI at_, .cells 46 [.int .i64 x.1, .int .i64 a0, .int .i64 a1, .int .i64 a2, .int .i64 x.2.2.2.2.1, .int .i64 x.2.2.2.2.2.1, .int .i64 x.2.2.2.2.2.2.1, .int .i64 x.2.2.2.2.2.2.2], .cells 46 [.int .i64 0, .int .i64 0, .int .i64 0, .int .i64 0, .int .i64 0, .int .i64 0, .int .i64 0, .int .i64 0], .cells 156 [.ptr 2 0 0 1, .ptr 2 0 0 2, .ptr 2 0 0 3]] [0, 1] <|
   .need (inR .i64 (1 + 1)) <|
   .stop (lp (bodyOf Tryd.f48) 0) (.c (.ptr 0 0 0 0) :: J2 (.c (.ptr 2 0 0 0) :: .c (.ptr 3 0 0 0) :: J16 (J2 (.c (.pre 4 1 (Int.toNat (ofF x.1).1.1)) :: .c (.int .i64 (((Int.toNat (ofF x.1).1.1) : Nat) : Int)) :: .c (.int .i64 (1 + 1)) :: J8 (J4 ([])))))) [.cells 97 [.osl 1 1 at_.length, .bool (f && (cutOne at_ a1).2)], .ovec 3 tI at_, .cells 46 [.int .i64 x.1, .int .i64 a0, .int .i64 (cutOne at_ a1).1, .int .i64 a2, .int .i64 x.2.2.2.2.1, .int .i64 x.2.2.2.2.2.1, .int .i64 x.2.2.2.2.2.2.1, .int .i64 x.2.2.2.2.2.2.2], .cells 46 [.int .i64 0, .int .i64 0, .int .i64 0, .int .i64 0, .int .i64 0, .int .i64 0, .int .i64 0, .int .i64 0], .cells 156 [.ptr 2 0 0 1, .ptr 2 0 0 2, .ptr 2 0 0 3]])
  (.ret (.agg [.int .i64 x.1, .int .i64 a0, .int .i64 a1, .int .i64 a2, .int .i64 x.2.2.2.2.1, .int .i64 x.2.2.2.2.2.1, .int .i64 x.2.2.2.2.2.2.1, .int .i64 x.2.2.2.2.2.2.2]) [.cells 97 [.osl 1 1 at_.length, .bool f], .ovec 3 tI at_, .cells 46 [.int .i64 x.1, .int .i64 a0, .int .i64 a1, .int .i64 a2, .int .i64 x.2.2.2.2.1, .int .i64 x.2.2.2.2.2.1, .int .i64 x.2.2.2.2.2.2.1, .int .i64 x.2.2.2.2.2.2.2], .cells 46 [.int .i64 x.1, .int .i64 a0, .int .i64 a1, .int .i64 a2, .int .i64 x.2.2.2.2.1, .int .i64 x.2.2.2.2.2.1, .int .i64 x.2.2.2.2.2.2.1, .int .i64 x.2.2.2.2.2.2.2], .cells 156 [.ptr 2 0 0 1, .ptr 2 0 0 2, .ptr 2 0 0 3]])
theorem cins_i1_R_ok (at_ : List Int) (fine : Bool) (x : EIns) (f : Bool) (a0 : Int) (a1 : Int) (a2 : Int) : aRound Tryd.prog oc22 Tryd.f48 cins_lv 3000 (lp (bodyOf Tryd.f48) 0) (.c (.ptr 0 0 0 0) :: J2 (.c (.ptr 2 0 0 0) :: .c (.ptr 3 0 0 0) :: J16 (J2 (.c (.pre 4 1 (Int.toNat (ofF x.1).1.1)) :: .c (.int .i64 (((Int.toNat (ofF x.1).1.1) : Nat) : Int)) :: .c (.int .i64 1) :: J8 (J4 ([])))))) [.cells 97 [.osl 1 1 at_.length, .bool f], .ovec 3 tI at_, .cells 46 [.int .i64 x.1, .int .i64 a0, .int .i64 a1, .int .i64 a2, .int .i64 x.2.2.2.2.1, .int .i64 x.2.2.2.2.2.1, .int .i64 x.2.2.2.2.2.2.1, .int .i64 x.2.2.2.2.2.2.2], .cells 46 [.int .i64 0, .int .i64 0, .int .i64 0, .int .i64 0, .int .i64 0, .int .i64 0, .int .i64 0, .int .i64 0], .cells 156 [.ptr 2 0 0 1, .ptr 2 0 0 2, .ptr 2 0 0 3]] = cins_i1_R at_ fine x f a0 a1 a2 := by kernel_rfl
noncomputable def cins_i0_R (at_ : List Int) (fine : Bool) (x : EIns) (f : Bool) (a0 : Int) (a1 : Int) (a2 : Int) : Tree :=
  .ite (decide ((0 : Int) < (((Int.toNat (ofF x.1).1.1) : Nat) : Int)))
  (.need ((0 : Int) ≤ 0 ∧ (0 : Int) < (((Int.toNat (ofF x.1).1.1) : Nat) : Int)) <|
   .callH 88 [.c (.ptr 0 0 0 0), .c (.int .i64 a0)] [.cells 97 [.osl 1 1 at_.length, .bool f], .ovec 3 tI at_, .cells 46 [.int .i64 x.1, .int .i64 a0, .int .i64 a1, .int .i64 a2, .int .i64 x.2.2.2.2.1, .int .i64 x.2.2.2.2.2.1, .int .i64 x.2.2.2.2.2.2.1, .int .i64 x.2.2.2.2.2.2.2], .cells 46 [.int .i64 0, .int .i64 0, .int .i64 0, .int .i64 0, .int .i64 0, .int .i64 0, .int .i64 0, .int .i64 0], .cells 156 [.ptr 2 0 0 1, .ptr 2 0 0 2, .ptr 2 0 0 3]] (.c (.int .i64 (cutOne at_ a0).1)) [.cells 97 [.osl 1 1 at_.length, .bool (f && (cutOne at_ a0).2)], .ovec 3 tI at_, .cells 46 [.int .i64 x.1, .int .i64 a0, .int .i64 a1, .int .i64 a2, .int .i64 x.2.2.2.2.1, .int .i64 x.2.2.2.2.2.1, .int .i64 x.2.2.2.2.2.2.1, .int .i64 x.2.2.2.2.2.2.2], .cells 46 [.int .i64 0, .int .i64 0, .int .i64 0, .int .i64 0, .int .i64 0, .int .i64 0, .int .i64 0, .int .i64 0], .cells 156 [.ptr 2 0 0 1, .ptr 2 0 0 2, .ptr 2 0 0 3]] [0, 1] <|
   .need (inR .i64 (0 + 1)) <|
   .stop (lp (bodyOf Tryd.f48) 0) (.c (.ptr 0 0 0 0) :: J2 (.c (.ptr 2 0 0 0) :: .c (.ptr 3 0 0 0) :: J16 (J2 (.c (.pre 4 1 (Int.toNat (ofF x.1).1.1)) :: .c (.int .i64 (((Int.toNat (ofF x.1).1.1) : Nat) : Int)) :: .c (.int .i64 (0 + 1)) :: J8 (J4 ([])))))) [.cells 97 [.osl 1 1 at_.length, .bool (f && (cutOne at_ a0).2)], .ovec 3 tI at_, .cells 46 [.int .i64 x.1, .int .i64 (cutOne at_ a0).1, .int .i64 a1, .int .i64 a2, .int .i64 x.2.2.2.2.1, .int .i64 x.2.2.2.2.2.1, .int .i64 x.2.2.2.2.2.2.1, .int .i64 x.2.2.2.2.2.2.2], .cells 46 [.int .i64 0, .int .i64 0, .int .i64 0, .int .i64 0, .int .i64 0, .int .i64 0, .int .i64 0, .int .i64 0], .cells 156 [.ptr 2 0 0 1, .ptr 2 0 0 2, .ptr 2 0 0 3]])
  (.ret (.agg [.int .i64 x.1, .int .i64 a0, .int .i64 a1, .int .i64 a2, .int .i64 x.2.2.2.2.1, .int .i64 x.2.2.2.2.2.1, .int .i64 x.2.2.2.2.2.2.1, .int .i64 x.2.2.2.2.2.2.2]) [.cells 97 [.osl 1 1 at_.length, .bool f], .ovec 3 tI at_, .cells 46 [.int .i64 x.1, .int .i64 a0, .int .i64 a1, .int .i64 a2, .int .i64 x.2.2.2.2.1, .int .i64 x.2.2.2.2.2.1, .int .i64 x.2.2.2.2.2.2.1, .int .i64 x.2.2.2.2.2.2.2], .cells 46 [.int .i64 x.1, .int .i64 a0, .int .i64 a1, .int .i64 a2, .int .i64 x.2.2.2.2.1, .int .i64 x.2.2.2.2.2.1, .int .i64 x.2.2.2.2.2.2.1, .int .i64 x.2.2.2.2.2.2.2], .cells 156 [.ptr 2 0 0 1, .ptr 2 0 0 2, .ptr 2 0 0 3]])
theorem cins_i0_R_ok (at_ : List Int) (fine : Bool) (x : EIns) (f : Bool) (a0 : Int) (a1 : Int) (a2 : Int) : aRound Tryd.prog oc22 Tryd.f48 cins_lv 3000 (lp (bodyOf Tryd.f48) 0) (.c (.ptr 0 0 0 0) :: J2 (.c (.ptr 2 0 0 0) :: .c (.ptr 3 0 0 0) :: J16 (J2 (.c (.pre 4 1 (Int.toNat (ofF x.1).1.1)) :: .c (.int .i64 (((Int.toNat (ofF x.1).1.1) : Nat) : Int)) :: .c (.int .i64 0) :: J8 (J4 ([])))))) [.cells 97 [.osl 1 1 at_.length, .bool f], .ovec 3 tI at_, .cells 46 [.int .i64 x.1, .int .i64 a0, .int .i64 a1, .int .i64 a2, .int .i64 x.2.2.2.2.1, .int .i64 x.2.2.2.2.2.1, .int .i64 x.2.2.2.2.2.2.1, .int .i64 x.2.2.2.2.2.2.2], .cells 46 [.int .i64 0, .int .i64 0, .int .i64 0, .int .i64 0, .int .i64 0, .int .i64 0, .int .i64 0, .int .i64 0], .cells 156 [.ptr 2 0 0 1, .ptr 2 0 0 2, .ptr 2 0 0 3]] = cins_i0_R at_ fine x f a0 a1 a2 := by kernel_rfl
theorem cins_i3 (at_ : List Int) (fine : Bool) (x : EIns) (f : Bool) (a0 : Int) (a1 : Int) (a2 : Int) (ha : 0 ≤ (ofF x.1).1.1 ∧ (ofF x.1).1.1 ≤ 3) : RunN 2 Tryd.prog 48 (finQ Tryd.prog 2 (.agg (Ty.enc tIns ((x.1, a0, a1, a2, x.2.2.2.2)))) [.cells 97 [.osl 1 1 at_.length, .bool f], .ovec 3 tI at_]) (lp (bodyOf Tryd.f48) 0) (.c (.ptr 0 0 0 0) :: J2 (.c (.ptr 2 0 0 0) :: .c (.ptr 3 0 0 0) :: J16 (J2 (.c (.pre 4 1 (Int.toNat (ofF x.1).1.1)) :: .c (.int .i64 (((Int.toNat (ofF x.1).1.1) : Nat) : Int)) :: .c (.int .i64 3) :: J8 (J4 ([])))))) [.cells 97 [.osl 1 1 at_.length, .bool f], .ovec 3 tI at_, .cells 46 [.int .i64 x.1, .int .i64 a0, .int .i64 a1, .int .i64 a2, .int .i64 x.2.2.2.2.1, .int .i64 x.2.2.2.2.2.1, .int .i64 x.2.2.2.2.2.2.1, .int .i64 x.2.2.2.2.2.2.2], .cells 46 [.int .i64 0, .int .i64 0, .int .i64 0, .int .i64 0, .int .i64 0, .int .i64 0, .int .i64 0, .int .i64 0], .cells 156 [.ptr 2 0 0 1, .ptr 2 0 0 2, .ptr 2 0 0 3]] :=
  Run.roundA oc22 cins_lv 3000 Tryd.func48 mixed (cins_i3_R at_ fine x f a0 a1 a2) (cins_i3_R_ok at_ fine x f a0 a1 a2) (by
    unfold cins_i3_R
    refine g_iteD (fun h0 => ?_) (fun h0 => ?_)
    · refine g_need (by omega) ?_
      exact (show False from by first | omega | (constructor <;> omega) | (rw [i64_iff]; omega) | (rw [i64_iff]; constructor <;> omega) | rfl | (simp; done) | (simp; omega))
    · refine g_fin ?_
      exact g_end [0, 1] (show ∀ k, k < 2 → ([0, 1] : List Nat)[k]? = some k by decide) (by decide) (⟨⟨rfl, (show (x.1 : Int) = (x.1, a0, a1, a2, x.2.2.2.2).1 from by rfl)⟩, ⟨rfl, (show (a0 : Int) = (x.1, a0, a1, a2, x.2.2.2.2).2.1 from by rfl)⟩, ⟨rfl, (show (a1 : Int) = (x.1, a0, a1, a2, x.2.2.2.2).2.2.1 from by rfl)⟩, ⟨rfl, (show (a2 : Int) = (x.1, a0, a1, a2, x.2.2.2.2).2.2.2.1 from by rfl)⟩, ⟨rfl, (show (x.2.2.2.2.1 : Int) = (x.1, a0, a1, a2, x.2.2.2.2).2.2.2.2.1 from by rfl)⟩, ⟨rfl, (show (x.2.2.2.2.2.1 : Int) = (x.1, a0, a1, a2, x.2.2.2.2).2.2.2.2.2.1 from by rfl)⟩, ⟨rfl, (show (x.2.2.2.2.2.2.1 : Int) = (x.1, a0, a1, a2, x.2.2.2.2).2.2.2.2.2.2.1 from by rfl)⟩, ⟨rfl, (show (x.2.2.2.2.2.2.2 : Int) = (x.1, a0, a1, a2, x.2.2.2.2).2.2.2.2.2.2.2 from by rfl)⟩, trivial⟩) ⟨leB.refl _, leB.refl _, trivial⟩
    )
theorem cins_i2 (at_ : List Int) (fine : Bool) (x : EIns) (f : Bool) (a0 : Int) (a1 : Int) (a2 : Int) (ha : 0 ≤ (ofF x.1).1.1 ∧ (ofF x.1).1.1 ≤ 3) : RunN 2 Tryd.prog 48 (finQ Tryd.prog 2 (.agg (Ty.enc tIns ((x.1, a0, a1, stepV at_ (ofF x.1).1.1 2 a2, x.2.2.2.2)))) [.cells 97 [.osl 1 1 at_.length, .bool (f && stepOk at_ (ofF x.1).1.1 2 a2)], .ovec 3 tI at_]) (lp (bodyOf Tryd.f48) 0) (.c (.ptr 0 0 0 0) :: J2 (.c (.ptr 2 0 0 0) :: .c (.ptr 3 0 0 0) :: J16 (J2 (.c (.pre 4 1 (Int.toNat (ofF x.1).1.1)) :: .c (.int .i64 (((Int.toNat (ofF x.1).1.1) : Nat) : Int)) :: .c (.int .i64 2) :: J8 (J4 ([])))))) [.cells 97 [.osl 1 1 at_.length, .bool f], .ovec 3 tI at_, .cells 46 [.int .i64 x.1, .int .i64 a0, .int .i64 a1, .int .i64 a2, .int .i64 x.2.2.2.2.1, .int .i64 x.2.2.2.2.2.1, .int .i64 x.2.2.2.2.2.2.1, .int .i64 x.2.2.2.2.2.2.2], .cells 46 [.int .i64 0, .int .i64 0, .int .i64 0, .int .i64 0, .int .i64 0, .int .i64 0, .int .i64 0, .int .i64 0], .cells 156 [.ptr 2 0 0 1, .ptr 2 0 0 2, .ptr 2 0 0 3]] :=
  Run.roundA oc22 cins_lv 3000 Tryd.func48 mixed (cins_i2_R at_ fine x f a0 a1 a2) (cins_i2_R_ok at_ fine x f a0 a1 a2) (by
    unfold cins_i2_R
    refine g_iteD (fun h0 => ?_) (fun h0 => ?_)
    · refine g_need (by omega) ?_
      refine g_callH (AFunH.frameB [0, 1] (one_fun at_ f a2) rfl rfl rfl rfl rfl rfl rfl) ?_
      refine g_need (i64_iff.2 (by omega)) ?_
      refine g_stop (RunN.keep [0, 1, 2, 3, 4] (true :: F2 (true :: true :: F16 (F2 (true :: true :: true :: F8 (F4 ([])))))) (show ∀ k, k < 2 → ([0, 1, 2, 3, 4] : List Nat)[k]? = some k by decide) (by decide) rfl rfl ?_)
      have ht := cins_i3 at_ fine x (f && (cutOne at_ a2).2) a0 a1 (cutOne at_ a2).1 ha; have e1 : stepV at_ (ofF x.1).1.1 2 a2 = (cutOne at_ a2).1 := if_pos (by omega); have e2 : stepOk at_ (ofF x.1).1.1 2 a2 = (cutOne at_ a2).2 := if_pos (by omega); rw [e1, e2]; exact ht
    · refine g_fin ?_
      exact g_end [0, 1] (show ∀ k, k < 2 → ([0, 1] : List Nat)[k]? = some k by decide) (by decide) (⟨⟨rfl, (show (x.1 : Int) = (x.1, a0, a1, stepV at_ (ofF x.1).1.1 2 a2, x.2.2.2.2).1 from by first | rfl | exact (if_neg (by omega)).symm | (simp only [stepOk, if_neg (show ¬ (2 : Int) < (ofF x.1).1.1 by omega), Bool.and_true]; done))⟩, ⟨rfl, (show (a0 : Int) = (x.1, a0, a1, stepV at_ (ofF x.1).1.1 2 a2, x.2.2.2.2).2.1 from by first | rfl | exact (if_neg (by omega)).symm | (simp only [stepOk, if_neg (show ¬ (2 : Int) < (ofF x.1).1.1 by omega), Bool.and_true]; done))⟩, ⟨rfl, (show (a1 : Int) = (x.1, a0, a1, stepV at_ (ofF x.1).1.1 2 a2, x.2.2.2.2).2.2.1 from by first | rfl | exact (if_neg (by omega)).symm | (simp only [stepOk, if_neg (show ¬ (2 : Int) < (ofF x.1).1.1 by omega), Bool.and_true]; done))⟩, ⟨rfl, (show (a2 : Int) = (x.1, a0, a1, stepV at_ (ofF x.1).1.1 2 a2, x.2.2.2.2).2.2.2.1 from by first | rfl | exact (if_neg (by omega)).symm | (simp only [stepOk, if_neg (show ¬ (2 : Int) < (ofF x.1).1.1 by omega), Bool.and_true]; done))⟩, ⟨rfl, (show (x.2.2.2.2.1 : Int) = (x.1, a0, a1, stepV at_ (ofF x.1).1.1 2 a2, x.2.2.2.2).2.2.2.2.1 from by first | rfl | exact (if_neg (by omega)).symm | (simp only [stepOk, if_neg (show ¬ (2 : Int) < (ofF x.1).1.1 by omega), Bool.and_true]; done))⟩, ⟨rfl, (show (x.2.2.2.2.2.1 : Int) = (x.1, a0, a1, stepV at_ (ofF x.1).1.1 2 a2, x.2.2.2.2).2.2.2.2.2.1 from by first | rfl | exact (if_neg (by omega)).symm | (simp only [stepOk, if_neg (show ¬ (2 : Int) < (ofF x.1).1.1 by omega), Bool.and_true]; done))⟩, ⟨rfl, (show (x.2.2.2.2.2.2.1 : Int) = (x.1, a0, a1, stepV at_ (ofF x.1).1.1 2 a2, x.2.2.2.2).2.2.2.2.2.2.1 from by first | rfl | exact (if_neg (by omega)).symm | (simp only [stepOk, if_neg (show ¬ (2 : Int) < (ofF x.1).1.1 by omega), Bool.and_true]; done))⟩, ⟨rfl, (show (x.2.2.2.2.2.2.2 : Int) = (x.1, a0, a1, stepV at_ (ofF x.1).1.1 2 a2, x.2.2.2.2).2.2.2.2.2.2.2 from by first | rfl | exact (if_neg (by omega)).symm | (simp only [stepOk, if_neg (show ¬ (2 : Int) < (ofF x.1).1.1 by omega), Bool.and_true]; done))⟩, trivial⟩) ⟨⟨rfl, leC.refl _, (show (f : Bool) = (f && stepOk at_ (ofF x.1).1.1 2 a2) from by first | rfl | exact (if_neg (by omega)).symm | (simp only [stepOk, if_neg (show ¬ (2 : Int) < (ofF x.1).1.1 by omega), Bool.and_true]; done)), trivial⟩, leB.refl _, trivial⟩
    )
theorem cins_i1 (at_ : List Int) (fine : Bool) (x : EIns) (f : Bool) (a0 : Int) (a1 : Int) (a2 : Int) (ha : 0 ≤ (ofF x.1).1.1 ∧ (ofF x.1).1.1 ≤ 3) : RunN 2 Tryd.prog 48 (finQ Tryd.prog 2 (.agg (Ty.enc tIns ((x.1, a0, stepV at_ (ofF x.1).1.1 1 a1, stepV at_ (ofF x.1).1.1 2 a2, x.2.2.2.2)))) [.cells 97 [.osl 1 1 at_.length, .bool (f && (stepOk at_ (ofF x.1).1.1 1 a1 && stepOk at_ (ofF x.1).1.1 2 a2))], .ovec 3 tI at_]) (lp (bodyOf Tryd.f48) 0) (.c (.ptr 0 0 0 0) :: J2 (.c (.ptr 2 0 0 0) :: .c (.ptr 3 0 0 0) :: J16 (J2 (.c (.pre 4 1 (Int.toNat (ofF x.1).1.1)) :: .c (.int .i64 (((Int.toNat (ofF x.1).1.1) : Nat) : Int)) :: .c (.int .i64 1) :: J8 (J4 ([])))))) [.cells 97 [.osl 1 1 at_.length, .bool f], .ovec 3 tI at_, .cells 46 [.int .i64 x.1, .int .i64 a0, .int .i64 a1, .int .i64 a2, .int .i64 x.2.2.2.2.1, .int .i64 x.2.2.2.2.2.1, .int .i64 x.2.2.2.2.2.2.1, .int .i64 x.2.2.2.2.2.2.2], .cells 46 [.int .i64 0, .int .i64 0, .int .i64 0, .int .i64 0, .int .i64 0, .int .i64 0, .int .i64 0, .int .i64 0], .cells 156 [.ptr 2 0 0 1, .ptr 2 0 0 2, .ptr 2 0 0 3]] :=
  Run.roundA oc22 cins_lv 3000 Tryd.func48 mixed (cins_i1_R at_ fine x f a0 a1 a2) (cins_i1_R_ok at_ fine x f a0 a1 a2) (by
    unfold cins_i1_R
    refine g_iteD (fun h0 => ?_) (fun h0 => ?_)
    · refine g_need (by omega) ?_
      refine g_callH (AFunH.frameB [0, 1] (one_fun at_ f a1) rfl rfl rfl rfl rfl rfl rfl) ?_
      refine g_need (i64_iff.2 (by omega)) ?_
      refine g_stop (RunN.keep [0, 1, 2, 3, 4] (true :: F2 (true :: true :: F16 (F2 (true :: true :: true :: F8 (F4 ([])))))) (show ∀ k, k < 2 → ([0, 1, 2, 3, 4] : List Nat)[k]? = some k by decide) (by decide) rfl rfl ?_)
      have ht := cins_i2 at_ fine x (f && (cutOne at_ a1).2) a0 (cutOne at_ a1).1 a2 ha; have e1 : stepV at_ (ofF x.1).1.1 1 a1 = (cutOne at_ a1).1 := if_pos (by omega); have e2 : stepOk at_ (ofF x.1).1.1 1 a1 = (cutOne at_ a1).2 := if_pos (by omega); rw [e1, e2]; rw [← Bool.and_assoc]; exact ht
    · refine g_fin ?_
      exact g_end [0, 1] (show ∀ k, k < 2 → ([0, 1] : List Nat)[k]? = some k by decide) (by decide) (⟨⟨rfl, (show (x.1 : Int) = (x.1, a0, stepV at_ (ofF x.1).1.1 1 a1, stepV at_ (ofF x.1).1.1 2 a2, x.2.2.2.2).1 from by first | rfl | exact (if_neg (by omega)).symm | (simp only [stepOk, if_neg (show ¬ (1 : Int) < (ofF x.1).1.1 by omega), if_neg (show ¬ (2 : Int) < (ofF x.1).1.1 by omega), Bool.and_true]; done))⟩, ⟨rfl, (show (a0 : Int) = (x.1, a0, stepV at_ (ofF x.1).1.1 1 a1, stepV at_ (ofF x.1).1.1 2 a2, x.2.2.2.2).2.1 from by first | rfl | exact (if_neg (by omega)).symm | (simp only [stepOk, if_neg (show ¬ (1 : Int) < (ofF x.1).1.1 by omega), if_neg (show ¬ (2 : Int) < (ofF x.1).1.1 by omega), Bool.and_true]; done))⟩, ⟨rfl, (show (a1 : Int) = (x.1, a0, stepV at_ (ofF x.1).1.1 1 a1, stepV at_ (ofF x.1).1.1 2 a2, x.2.2.2.2).2.2.1 from by first | rfl | exact (if_neg (by omega)).symm | (simp only [stepOk, if_neg (show ¬ (1 : Int) < (ofF x.1).1.1 by omega), if_neg (show ¬ (2 : Int) < (ofF x.1).1.1 by omega), Bool.and_true]; done))⟩, ⟨rfl, (show (a2 : Int) = (x.1, a0, stepV at_ (ofF x.1).1.1 1 a1, stepV at_ (ofF x.1).1.1 2 a2, x.2.2.2.2).2.2.2.1 from by first | rfl | exact (if_neg (by omega)).symm | (simp only [stepOk, if_neg (show ¬ (1 : Int) < (ofF x.1).1.1 by omega), if_neg (show ¬ (2 : Int) < (ofF x.1).1.1 by omega), Bool.and_true]; done))⟩, ⟨rfl, (show (x.2.2.2.2.1 : Int) = (x.1, a0, stepV at_ (ofF x.1).1.1 1 a1, stepV at_ (ofF x.1).1.1 2 a2, x.2.2.2.2).2.2.2.2.1 from by first | rfl | exact (if_neg (by omega)).symm | (simp only [stepOk, if_neg (show ¬ (1 : Int) < (ofF x.1).1.1 by omega), if_neg (show ¬ (2 : Int) < (ofF x.1).1.1 by omega), Bool.and_true]; done))⟩, ⟨rfl, (show (x.2.2.2.2.2.1 : Int) = (x.1, a0, stepV at_ (ofF x.1).1.1 1 a1, stepV at_ (ofF x.1).1.1 2 a2, x.2.2.2.2).2.2.2.2.2.1 from by first | rfl | exact (if_neg (by omega)).symm | (simp only [stepOk, if_neg (show ¬ (1 : Int) < (ofF x.1).1.1 by omega), if_neg (show ¬ (2 : Int) < (ofF x.1).1.1 by omega), Bool.and_true]; done))⟩, ⟨rfl, (show (x.2.2.2.2.2.2.1 : Int) = (x.1, a0, stepV at_ (ofF x.1).1.1 1 a1, stepV at_ (ofF x.1).1.1 2 a2, x.2.2.2.2).2.2.2.2.2.2.1 from by first | rfl | exact (if_neg (by omega)).symm | (simp only [stepOk, if_neg (show ¬ (1 : Int) < (ofF x.1).1.1 by omega), if_neg (show ¬ (2 : Int) < (ofF x.1).1.1 by omega), Bool.and_true]; done))⟩, ⟨rfl, (show (x.2.2.2.2.2.2.2 : Int) = (x.1, a0, stepV at_ (ofF x.1).1.1 1 a1, stepV at_ (ofF x.1).1.1 2 a2, x.2.2.2.2).2.2.2.2.2.2.2 from by first | rfl | exact (if_neg (by omega)).symm | (simp only [stepOk, if_neg (show ¬ (1 : Int) < (ofF x.1).1.1 by omega), if_neg (show ¬ (2 : Int) < (ofF x.1).1.1 by omega), Bool.and_true]; done))⟩, trivial⟩) ⟨⟨rfl, leC.refl _, (show (f : Bool) = (f && (stepOk at_ (ofF x.1).1.1 1 a1 && stepOk at_ (ofF x.1).1.1 2 a2)) from by first | rfl | exact (if_neg (by omega)).symm | (simp only [stepOk, if_neg (show ¬ (1 : Int) < (ofF x.1).1.1 by omega), if_neg (show ¬ (2 : Int) < (ofF x.1).1.1 by omega), Bool.and_true]; done)), trivial⟩, leB.refl _, trivial⟩
    )
theorem cins_i0 (at_ : List Int) (fine : Bool) (x : EIns) (f : Bool) (a0 : Int) (a1 : Int) (a2 : Int) (ha : 0 ≤ (ofF x.1).1.1 ∧ (ofF x.1).1.1 ≤ 3) : RunN 2 Tryd.prog 48 (finQ Tryd.prog 2 (.agg (Ty.enc tIns ((x.1, stepV at_ (ofF x.1).1.1 0 a0, stepV at_ (ofF x.1).1.1 1 a1, stepV at_ (ofF x.1).1.1 2 a2, x.2.2.2.2)))) [.cells 97 [.osl 1 1 at_.length, .bool (f && (stepOk at_ (ofF x.1).1.1 0 a0 && (stepOk at_ (ofF x.1).1.1 1 a1 && stepOk at_ (ofF x.1).1.1 2 a2)))], .ovec 3 tI at_]) (lp (bodyOf Tryd.f48) 0) (.c (.ptr 0 0 0 0) :: J2 (.c (.ptr 2 0 0 0) :: .c (.ptr 3 0 0 0) :: J16 (J2 (.c (.pre 4 1 (Int.toNat (ofF x.1).1.1)) :: .c (.int .i64 (((Int.toNat (ofF x.1).1.1) : Nat) : Int)) :: .c (.int .i64 0) :: J8 (J4 ([])))))) [.cells 97 [.osl 1 1 at_.length, .bool f], .ovec 3 tI at_, .cells 46 [.int .i64 x.1, .int .i64 a0, .int .i64 a1, .int .i64 a2, .int .i64 x.2.2.2.2.1, .int .i64 x.2.2.2.2.2.1, .int .i64 x.2.2.2.2.2.2.1, .int .i64 x.2.2.2.2.2.2.2], .cells 46 [.int .i64 0, .int .i64 0, .int .i64 0, .int .i64 0, .int .i64 0, .int .i64 0, .int .i64 0, .int .i64 0], .cells 156 [.ptr 2 0 0 1, .ptr 2 0 0 2, .ptr 2 0 0 3]] :=
  Run.roundA oc22 cins_lv 3000 Tryd.func48 mixed (cins_i0_R at_ fine x f a0 a1 a2) (cins_i0_R_ok at_ fine x f a0 a1 a2) (by
    unfold cins_i0_R
    refine g_iteD (fun h0 => ?_) (fun h0 => ?_)
    · refine g_need (by omega) ?_
      refine g_callH (AFunH.frameB [0, 1] (one_fun at_ f a0) rfl rfl rfl rfl rfl rfl rfl) ?_
      refine g_need (i64_iff.2 (by omega)) ?_
      refine g_stop (RunN.keep [0, 1, 2, 3, 4] (true :: F2 (true :: true :: F16 (F2 (true :: true :: true :: F8 (F4 ([])))))) (show ∀ k, k < 2 → ([0, 1, 2, 3, 4] : List Nat)[k]? = some k by decide) (by decide) rfl rfl ?_)
      have ht := cins_i1 at_ fine x (f && (cutOne at_ a0).2) (cutOne at_ a0).1 a1 a2 ha; have e1 : stepV at_ (ofF x.1).1.1 0 a0 = (cutOne at_ a0).1 := if_pos (by omega); have e2 : stepOk at_ (ofF x.1).1.1 0 a0 = (cutOne at_ a0).2 := if_pos (by omega); rw [e1, e2]; rw [← Bool.and_assoc]; exact ht
    · refine g_fin ?_
      exact g_end [0, 1] (show ∀ k, k < 2 → ([0, 1] : List Nat)[k]? = some k by decide) (by decide) (⟨⟨rfl, (show (x.1 : Int) = (x.1, stepV at_ (ofF x.1).1.1 0 a0, stepV at_ (ofF x.1).1.1 1 a1, stepV at_ (ofF x.1).1.1 2 a2, x.2.2.2.2).1 from by first | rfl | exact (if_neg (by omega)).symm | (simp only [stepOk, if_neg (show ¬ (0 : Int) < (ofF x.1).1.1 by omega), if_neg (show ¬ (1 : Int) < (ofF x.1).1.1 by omega), if_neg (show ¬ (2 : Int) < (ofF x.1).1.1 by omega), Bool.and_true]; done))⟩, ⟨rfl, (show (a0 : Int) = (x.1, stepV at_ (ofF x.1).1.1 0 a0, stepV at_ (ofF x.1).1.1 1 a1, stepV at_ (ofF x.1).1.1 2 a2, x.2.2.2.2).2.1 from by first | rfl | exact (if_neg (by omega)).symm | (simp only [stepOk, if_neg (show ¬ (0 : Int) < (ofF x.1).1.1 by omega), if_neg (show ¬ (1 : Int) < (ofF x.1).1.1 by omega), if_neg (show ¬ (2 : Int) < (ofF x.1).1.1 by omega), Bool.and_true]; done))⟩, ⟨rfl, (show (a1 : Int) = (x.1, stepV at_ (ofF x.1).1.1 0 a0, stepV at_ (ofF x.1).1.1 1 a1, stepV at_ (ofF x.1).1.1 2 a2, x.2.2.2.2).2.2.1 from by first | rfl | exact (if_neg (by omega)).symm | (simp only [stepOk, if_neg (show ¬ (0 : Int) < (ofF x.1).1.1 by omega), if_neg (show ¬ (1 : Int) < (ofF x.1).1.1 by omega), if_neg (show ¬ (2 : Int) < (ofF x.1).1.1 by omega), Bool.and_true]; done))⟩, ⟨rfl, (show (a2 : Int) = (x.1, stepV at_ (ofF x.1).1.1 0 a0, stepV at_ (ofF x.1).1.1 1 a1, stepV at_ (ofF x.1).1.1 2 a2, x.2.2.2.2).2.2.2.1 from by first | rfl | exact (if_neg (by omega)).symm | (simp only [stepOk, if_neg (show ¬ (0 : Int) < (ofF x.1).1.1 by omega), if_neg (show ¬ (1 : Int) < (ofF x.1).1.1 by omega), if_neg (show ¬ (2 : Int) < (ofF x.1).1.1 by omega), Bool.and_true]; done))⟩, ⟨rfl, (show (x.2.2.2.2.1 : Int) = (x.1, stepV at_ (ofF x.1).1.1 0 a0, stepV at_ (ofF x.1).1.1 1 a1, stepV at_ (ofF x.1).1.1 2 a2, x.2.2.2.2).2.2.2.2.1 from by first | rfl | exact (if_neg (by omega)).symm | (simp only [stepOk, if_neg (show ¬ (0 : Int) < (ofF x.1).1.1 by omega), if_neg (show ¬ (1 : Int) < (ofF x.1).1.1 by omega), if_neg (show ¬ (2 : Int) < (ofF x.1).1.1 by omega), Bool.and_true]; done))⟩, ⟨rfl, (show (x.2.2.2.2.2.1 : Int) = (x.1, stepV at_ (ofF x.1).1.1 0 a0, stepV at_ (ofF x.1).1.1 1 a1, stepV at_ (ofF x.1).1.1 2 a2, x.2.2.2.2).2.2.2.2.2.1 from by first | rfl | exact (if_neg (by omega)).symm | (simp only [stepOk, if_neg (show ¬ (0 : Int) < (ofF x.1).1.1 by omega), if_neg (show ¬ (1 : Int) < (ofF x.1).1.1 by omega), if_neg (show ¬ (2 : Int) < (ofF x.1).1.1 by omega), Bool.and_true]; done))⟩, ⟨rfl, (show (x.2.2.2.2.2.2.1 : Int) = (x.1, stepV at_ (ofF x.1).1.1 0 a0, stepV at_ (ofF x.1).1.1 1 a1, stepV at_ (ofF x.1).1.1 2 a2, x.2.2.2.2).2.2.2.2.2.2.1 from by first | rfl | exact (if_neg (by omega)).symm | (simp only [stepOk, if_neg (show ¬ (0 : Int) < (ofF x.1).1.1 by omega), if_neg (show ¬ (1 : Int) < (ofF x.1).1.1 by omega), if_neg (show ¬ (2 : Int) < (ofF x.1).1.1 by omega), Bool.and_true]; done))⟩, ⟨rfl, (show (x.2.2.2.2.2.2.2 : Int) = (x.1, stepV at_ (ofF x.1).1.1 0 a0, stepV at_ (ofF x.1).1.1 1 a1, stepV at_ (ofF x.1).1.1 2 a2, x.2.2.2.2).2.2.2.2.2.2.2 from by first | rfl | exact (if_neg (by omega)).symm | (simp only [stepOk, if_neg (show ¬ (0 : Int) < (ofF x.1).1.1 by omega), if_neg (show ¬ (1 : Int) < (ofF x.1).1.1 by omega), if_neg (show ¬ (2 : Int) < (ofF x.1).1.1 by omega), Bool.and_true]; done))⟩, trivial⟩) ⟨⟨rfl, leC.refl _, (show (f : Bool) = (f && (stepOk at_ (ofF x.1).1.1 0 a0 && (stepOk at_ (ofF x.1).1.1 1 a1 && stepOk at_ (ofF x.1).1.1 2 a2))) from by first | rfl | exact (if_neg (by omega)).symm | (simp only [stepOk, if_neg (show ¬ (0 : Int) < (ofF x.1).1.1 by omega), if_neg (show ¬ (1 : Int) < (ofF x.1).1.1 by omega), if_neg (show ¬ (2 : Int) < (ofF x.1).1.1 by omega), Bool.and_true]; done)), trivial⟩, leB.refl _, trivial⟩
    )
theorem cins_fun (at_ : List Int) (fine : Bool) (x : EIns) : AFunH Tryd.prog 48 [.c (.ptr 0 0 0 0), .agg (tIns.enc x)] [.cells 97 [.osl 1 1 at_.length, .bool fine], .ovec 3 tI at_] (.agg (Ty.enc tIns (cutIns at_ x))) [.cells 97 [.osl 1 1 at_.length, .bool (fine && cutInsOk at_ x)], .ovec 3 tI at_] (List.range 2) :=
  AFunH.ofL oc22 cins_lv 3000 Tryd.func48 mixed rfl (by decide) (Nat.le_of_ble_eq_true rfl) rfl rfl (Nat.le_of_ble_eq_true rfl) _ (cins_T_ok at_ fine x) fun hF => by
    have ha := ofF_asks x.1
    unfold cins_T
    refine g_call (of__fun x.1) (fun h => nomatch h) ?_
    refine g_ite (fun h0 => ?_) (fun h0 => ?_)
    · refine g_need (by first | omega | (constructor <;> omega) | (rw [i64_iff]; omega) | (rw [i64_iff]; constructor <;> omega) | rfl | (simp; done) | (simp; omega)) ?_
      refine g_stop (RunN.keep [0, 1, 2, 3, 5] (true :: F2 (true :: true :: F16 (F2 (true :: true :: true :: F8 (F4 ([])))))) (show ∀ k, k < 2 → ([0, 1, 2, 3, 5] : List Nat)[k]? = some k by decide) (by decide) rfl rfl ?_)
      have ht := cins_i0 at_ fine x fine x.2.1 x.2.2.1 x.2.2.2.1 ha; have e : cutAsks x.1 = (ofF x.1).1.1 := if_pos h0; simp only [cutIns, cutInsOk, e]; exact ht
    · refine g_fin ?_
      exact g_end [0, 1] (show ∀ k, k < 2 → ([0, 1] : List Nat)[k]? = some k by decide) (by decide) (⟨⟨rfl, (show (x.1 : Int) = (cutIns at_ x).1 from by simp only [cutIns, cutInsOk, stepV, stepOk, cutAsks, h0, if_false, Bool.false_eq_true, Int.lt_irrefl, Bool.and_true] <;> first | done | rfl | simp)⟩, ⟨rfl, (show (x.2.1 : Int) = (cutIns at_ x).2.1 from by simp only [cutIns, cutInsOk, stepV, stepOk, cutAsks, h0, if_false, Bool.false_eq_true, Int.lt_irrefl, Bool.and_true] <;> first | done | rfl | simp)⟩, ⟨rfl, (show (x.2.2.1 : Int) = (cutIns at_ x).2.2.1 from by simp only [cutIns, cutInsOk, stepV, stepOk, cutAsks, h0, if_false, Bool.false_eq_true, Int.lt_irrefl, Bool.and_true] <;> first | done | rfl | simp)⟩, ⟨rfl, (show (x.2.2.2.1 : Int) = (cutIns at_ x).2.2.2.1 from by simp only [cutIns, cutInsOk, stepV, stepOk, cutAsks, h0, if_false, Bool.false_eq_true, Int.lt_irrefl, Bool.and_true] <;> first | done | rfl | simp)⟩, ⟨rfl, (show (x.2.2.2.2.1 : Int) = (cutIns at_ x).2.2.2.2.1 from by simp only [cutIns, cutInsOk, stepV, stepOk, cutAsks, h0, if_false, Bool.false_eq_true, Int.lt_irrefl, Bool.and_true] <;> first | done | rfl | simp)⟩, ⟨rfl, (show (x.2.2.2.2.2.1 : Int) = (cutIns at_ x).2.2.2.2.2.1 from by simp only [cutIns, cutInsOk, stepV, stepOk, cutAsks, h0, if_false, Bool.false_eq_true, Int.lt_irrefl, Bool.and_true] <;> first | done | rfl | simp)⟩, ⟨rfl, (show (x.2.2.2.2.2.2.1 : Int) = (cutIns at_ x).2.2.2.2.2.2.1 from by simp only [cutIns, cutInsOk, stepV, stepOk, cutAsks, h0, if_false, Bool.false_eq_true, Int.lt_irrefl, Bool.and_true] <;> first | done | rfl | simp)⟩, ⟨rfl, (show (x.2.2.2.2.2.2.2 : Int) = (cutIns at_ x).2.2.2.2.2.2.2 from by simp only [cutIns, cutInsOk, stepV, stepOk, cutAsks, h0, if_false, Bool.false_eq_true, Int.lt_irrefl, Bool.and_true] <;> first | done | rfl | simp)⟩, trivial⟩) ⟨⟨rfl, leC.refl _, (show (fine : Bool) = (fine && cutInsOk at_ x) from by simp only [cutIns, cutInsOk, stepV, stepOk, cutAsks, h0, if_false, Bool.false_eq_true, Int.lt_irrefl, Bool.and_true] <;> first | done | rfl | simp), trivial⟩, leB.refl _, trivial⟩

end Go.Proofs.YtefkifdhjabdiaaDoor
namespace Go.Proofs.YtefkifdhjabdiaaDoor
set_option linter.unusedVariables false
set_option linter.unusedSimpArgs false
set_option maxRecDepth 100000
def cutLoop (loop : Int) : Nat → List EIns → List Int → List Int → Bool → Int → List EIns → Option (List Int × Bool × Int × List EIns)
  | i, x :: xs, n :: ns, at_, f, lo, ins =>
    if n = (i : Int) then cutLoop loop (i + 1) xs ns (at_ ++ [(ins.length : Int)]) (f && cutInsOk (at_ ++ [(ins.length : Int)]) x) (if (i : Int) = loop then (ins.length : Int) else lo) (ins ++ [cutIns (at_ ++ [(ins.length : Int)]) x])
    else if n = -1 then cutLoop loop (i + 1) xs ns (at_ ++ [-1]) f (if (i : Int) = loop then (ins.length : Int) else lo) ins
    else if 0 ≤ n then (if n < (i : Int) then cutLoop loop (i + 1) xs ns (at_ ++ [at_.getD n.toNat tI.dflt]) f (if (i : Int) = loop then (ins.length : Int) else lo) ins else none) else none
  | _, _, _, at_, f, lo, ins => some (at_, f, lo, ins)
def noT : ETrace := (0, 0, 0, [], [], (0, 0, [], []), (0, 0, [], []))
def endF (t : ETrace) (at_ : List Int) (f : Bool) (lo : Int) (ins : List EIns) (xs : List EExit) (k : Nat) : ETrace × Int := if (f && ((t.2.2.2.2.1.drop k).all (cutExitOk at_) && (cutExitOk at_ t.2.2.2.2.2.1 && cutExitOk at_ t.2.2.2.2.2.2))) = true then ((t.1, t.2.1, lo, ins, xs ++ (t.2.2.2.2.1.drop k).map (cutExit at_), cutExit at_ t.2.2.2.2.2.1, cutExit at_ t.2.2.2.2.2.2), 0) else (noT, 3)
section
variable {t : ETrace} {at_ : List Int} {f : Bool} {lo : Int} {ins : List EIns} {xs : List EExit} {k : Nat}
theorem endF_t (hk : t.2.2.2.2.1.length ≤ k) (h : ((f && cutExitOk at_ t.2.2.2.2.2.1) && cutExitOk at_ t.2.2.2.2.2.2) = true) : endF t at_ f lo ins xs k = ((t.1, t.2.1, lo, ins, xs, cutExit at_ t.2.2.2.2.2.1, cutExit at_ t.2.2.2.2.2.2), 0) := by
  unfold endF
  rw [List.drop_eq_nil_of_le hk, List.all_nil, Bool.true_and, ← Bool.and_assoc, if_pos h, List.map_nil, List.append_nil]
theorem endF_f (hk : t.2.2.2.2.1.length ≤ k) (h : ((f && cutExitOk at_ t.2.2.2.2.2.1) && cutExitOk at_ t.2.2.2.2.2.2) = false) : endF t at_ f lo ins xs k = (noT, 3) := by
  unfold endF
  rw [List.drop_eq_nil_of_le hk, List.all_nil, Bool.true_and, ← Bool.and_assoc, if_neg (by rw [h]; decide)]
theorem endF_step (hk : k < t.2.2.2.2.1.length) : endF t at_ f lo ins xs k = endF t at_ (f && cutExitOk at_ (t.2.2.2.2.1.getD k tExit.dflt)) lo ins (xs ++ [cutExit at_ (t.2.2.2.2.1.getD k tExit.dflt)]) (k + 1) := by
  unfold endF
  rw [dropCons (α := EExit) (Ty.dflt tExit) hk, List.all_cons, List.map_cons, List.append_cons]
  simp only [Bool.and_assoc]
end
def cutEnd (t : ETrace) (at_ : List Int) (f : Bool) (lo : Int) (ins : List EIns) : ETrace × Int := endF t at_ f lo ins [] 0
def loopAt (t : ETrace) (lo : Int) (n : Nat) : Int := if t.2.2.1 ≤ 0 then 0 else if (t.2.2.2.1.length : Int) ≤ t.2.2.1 then (n : Int) else lo
def cutThen (t : ETrace) : Option (List Int × Bool × Int × List EIns) → ETrace × Int
  | none => (noT, 3)
  | some r => cutEnd t r.1 r.2.1 (loopAt t r.2.2.1 r.2.2.2.length) r.2.2.2
def cutF (t : ETrace) (to : List Int) : ETrace × Int := if to.length = t.2.2.2.1.length then cutThen t (cutLoop t.2.2.1 0 t.2.2.2.1 to [] true 0 []) else (noT, 3)
def traceSm (t : ETrace) : Prop := t.2.2.2.1.length ≤ 1000000 ∧ (t.2.2.2.2.1.length ≤ 1000000 ∧ ∀ x ∈ t.2.2.2.2.1, exitSm x) ∧ exitSm t.2.2.2.2.2.1 ∧ exitSm t.2.2.2.2.2.2
noncomputable def oc23 : Orc where
  pure := fun f args => match f, args with
    | _, _ => none
  heap := fun f args H => match f, args with
    | 48, [.one (.c (.ptr b0 0 0 0)), a1] => match cellsAs 97 H[b0]? with
      | some [.osl b1 1 _, c0_1] => (match dA tIns a1, dC .bool c0_1, ovecAs 3 tI H[b1]? with
        | some x1, some y0_1, some y1 => hres [b0, b1] H (.agg (Ty.enc tIns (cutIns y1 x1))) [.cells 97 [.osl 1 1 y1.length, .bool (y0_1 && cutInsOk y1 x1)], .ovec 3 tI y1]
        | _, _, _ => none)
      | _ => none
    | 49, [.one (.c (.ptr b0 0 0 0)), a1] => match cellsAs 97 H[b0]? with
      | some [.osl b1 1 _, c0_1] => (match dA tExit a1, dC .bool c0_1, ovecAs 3 tI H[b1]? with
        | some x1, some y0_1, some y1 => hres [b0, b1] H (.agg (Ty.enc tExit (cutExit y1 x1))) [.cells 97 [.osl 1 1 y1.length, .bool (y0_1 && cutExitOk y1 x1)], .ovec 3 tI y1]
        | _, _, _ => none)
      | _ => none
    | _, _ => none
def cut_lv : LV := ⟨(false :: true :: true :: false :: true :: false :: true :: true :: F16 (F4 (true :: true :: true :: F32 (F32 (F16 (F8 (F4 (false :: true :: true :: true :: F16 (F8 (F4 (false :: []))))))))))), [24]⟩
noncomputable def cut_T (t : ETrace) (to : List Int) : Tree :=
  .ite ((!(decide ((to.length : Int) = (t.2.2.2.1.length : Int)))))
  (.ret (.tup [.agg [.int .i64 0, .int .i64 0, .int .i64 0, .nilsl, .nilsl, .int .i64 0, .int .i64 0, .nilsl, .nilsl, .int .i64 0, .int .i64 0, .nilsl, .nilsl], .c (.int .i64 3)]) [.cells 29 (Ty.enc tTrace t), .cells 29 [.int .i64 0, .int .i64 0, .int .i64 0, .nilsl, .nilsl, .int .i64 0, .int .i64 0, .nilsl, .nilsl, .int .i64 0, .int .i64 0, .nilsl, .nilsl]])
  (.stop (lp (bodyOf Tryd.f22) 0) (.junk :: .c (.ro tI to) :: .c (.ptr 0 0 0 0) :: .junk :: .c (.ptr 1 0 0 0) :: .junk :: .c (.ptr 2 0 0 0) :: .c (.ptr 3 0 0 0) :: J16 (J4 (.c (.ro tIns t.2.2.2.1) :: .c (.int .i64 (t.2.2.2.1.length : Int)) :: .c (.int .i64 0) :: J32 (J32 (J32 (J16 (J8 (J4 (.junk :: []))))))))) [.cells 29 (Ty.enc tTrace t), .cells 29 [.int .i64 0, .int .i64 0, .int .i64 0, .nilsl, .nilsl, .int .i64 0, .int .i64 0, .nilsl, .nilsl, .int .i64 0, .int .i64 0, .nilsl, .nilsl], .cells 97 [.nilsl, .lit true], .cells 29 [.int .i64 t.1, .int .i64 t.2.1, .int .i64 0, .nilsl, .nilsl, .int .i64 0, .int .i64 0, .nilsl, .nilsl, .int .i64 0, .int .i64 0, .nilsl, .nilsl]])
theorem cut_T_ok (t : ETrace) (to : List Int) : aRun Tryd.prog oc23 Tryd.f22 cut_lv 3000 [.code (bodyOf Tryd.f22)] ([.agg (tTrace.enc t), .c (.ro tI to)] ++ List.replicate (Func.ntmps Tryd.f22 - 2) .junk) [] = cut_T t to := by kernel_rfl
noncomputable def cut_l0_R (t : ETrace) (to : List Int) (i : Nat) (f : Bool) (lo : Int) (at_ : List Int) (ins : List EIns) : Tree :=
  .ite (decide (((i : Nat) : Int) < (t.2.2.2.1.length : Int)))
  (.need ((0 : Int) ≤ ((i : Nat) : Int) ∧ (((i : Nat) : Int) : Int) < (t.2.2.2.1.length : Int)) <|
   .need (i < t.2.2.2.1.length) <|
   .ite (decide (((i : Nat) : Int) = t.2.2.1))
   (.need ((0 : Int) ≤ ((i : Nat) : Int) ∧ (((i : Nat) : Int) : Int) < (to.length : Int)) <|
    .need (i < to.length) <|
    .ite (decide ((to.getD i tI.dflt) = ((i : Nat) : Int)))
    (.need (at_.length = at_.length) <|
     .need (0 = 0 ∧ 1 = ([((ins.length : Nat) : Int)]).length) <|
     .need ((at_.length + ([((ins.length : Nat) : Int)]).length) * 8 ≤ 140737488355328) <|
     .callH 48 [.c (.ptr 2 0 0 0), .agg [.int .i64 (t.2.2.2.1.getD i tIns.dflt).1, .int .i64 (t.2.2.2.1.getD i tIns.dflt).2.1, .int .i64 (t.2.2.2.1.getD i tIns.dflt).2.2.1, .int .i64 (t.2.2.2.1.getD i tIns.dflt).2.2.2.1, .int .i64 (t.2.2.2.1.getD i tIns.dflt).2.2.2.2.1, .int .i64 (t.2.2.2.1.getD i tIns.dflt).2.2.2.2.2.1, .int .i64 (t.2.2.2.1.getD i tIns.dflt).2.2.2.2.2.2.1, .int .i64 (t.2.2.2.1.getD i tIns.dflt).2.2.2.2.2.2.2]] [.cells 29 (Ty.enc tTrace t), .cells 29 [.int .i64 0, .int .i64 0, .int .i64 0, .nilsl, .nilsl, .int .i64 0, .int .i64 0, .nilsl, .nilsl, .int .i64 0, .int .i64 0, .nilsl, .nilsl], .cells 97 [.osl 8 1 (at_ ++ [((ins.length : Nat) : Int)]).length, .bool f], .cells 29 [.int .i64 t.1, .int .i64 t.2.1, .int .i64 ((ins.length : Nat) : Int), .osl 5 8 ins.length, .nilsl, .int .i64 0, .int .i64 0, .nilsl, .nilsl, .int .i64 0, .int .i64 0, .nilsl, .nilsl], .dead, .ovec 46 tIns ins, .cells 46 [.int .i64 (t.2.2.2.1.getD i tIns.dflt).1, .int .i64 (t.2.2.2.1.getD i tIns.dflt).2.1, .int .i64 (t.2.2.2.1.getD i tIns.dflt).2.2.1, .int .i64 (t.2.2.2.1.getD i tIns.dflt).2.2.2.1, .int .i64 (t.2.2.2.1.getD i tIns.dflt).2.2.2.2.1, .int .i64 (t.2.2.2.1.getD i tIns.dflt).2.2.2.2.2.1, .int .i64 (t.2.2.2.1.getD i tIns.dflt).2.2.2.2.2.2.1, .int .i64 (t.2.2.2.1.getD i tIns.dflt).2.2.2.2.2.2.2], .vec 3 tI ([((ins.length : Nat) : Int)]), .ovec 3 tI (at_ ++ [((ins.length : Nat) : Int)])] (.agg [.int .i64 (cutIns (at_ ++ [((ins.length : Nat) : Int)]) (t.2.2.2.1.getD i tIns.dflt)).1, .int .i64 (cutIns (at_ ++ [((ins.length : Nat) : Int)]) (t.2.2.2.1.getD i tIns.dflt)).2.1, .int .i64 (cutIns (at_ ++ [((ins.length : Nat) : Int)]) (t.2.2.2.1.getD i tIns.dflt)).2.2.1, .int .i64 (cutIns (at_ ++ [((ins.length : Nat) : Int)]) (t.2.2.2.1.getD i tIns.dflt)).2.2.2.1, .int .i64 (cutIns (at_ ++ [((ins.length : Nat) : Int)]) (t.2.2.2.1.getD i tIns.dflt)).2.2.2.2.1, .int .i64 (cutIns (at_ ++ [((ins.length : Nat) : Int)]) (t.2.2.2.1.getD i tIns.dflt)).2.2.2.2.2.1, .int .i64 (cutIns (at_ ++ [((ins.length : Nat) : Int)]) (t.2.2.2.1.getD i tIns.dflt)).2.2.2.2.2.2.1, .int .i64 (cutIns (at_ ++ [((ins.length : Nat) : Int)]) (t.2.2.2.1.getD i tIns.dflt)).2.2.2.2.2.2.2]) [.cells 29 (Ty.enc tTrace t), .cells 29 [.int .i64 0, .int .i64 0, .int .i64 0, .nilsl, .nilsl, .int .i64 0, .int .i64 0, .nilsl, .nilsl, .int .i64 0, .int .i64 0, .nilsl, .nilsl], .cells 97 [.osl 8 1 (at_ ++ [((ins.length : Nat) : Int)]).length, .bool (f && cutInsOk (at_ ++ [((ins.length : Nat) : Int)]) (t.2.2.2.1.getD i tIns.dflt))], .cells 29 [.int .i64 t.1, .int .i64 t.2.1, .int .i64 ((ins.length : Nat) : Int), .osl 5 8 ins.length, .nilsl, .int .i64 0, .int .i64 0, .nilsl, .nilsl, .int .i64 0, .int .i64 0, .nilsl, .nilsl], .dead, .ovec 46 tIns ins, .cells 46 [.int .i64 (t.2.2.2.1.getD i tIns.dflt).1, .int .i64 (t.2.2.2.1.getD i tIns.dflt).2.1, .int .i64 (t.2.2.2.1.getD i tIns.dflt).2.2.1, .int .i64 (t.2.2.2.1.getD i tIns.dflt).2.2.2.1, .int .i64 (t.2.2.2.1.getD i tIns.dflt).2.2.2.2.1, .int .i64 (t.2.2.2.1.getD i tIns.dflt).2.2.2.2.2.1, .int .i64 (t.2.2.2.1.getD i tIns.dflt).2.2.2.2.2.2.1, .int .i64 (t.2.2.2.1.getD i tIns.dflt).2.2.2.2.2.2.2], .vec 3 tI ([((ins.length : Nat) : Int)]), .ovec 3 tI (at_ ++ [((ins.length : Nat) : Int)])] [2, 8] <|
     .need (ins.length = ins.length) <|
     .need (0 = 0 ∧ 1 = ([(cutIns (at_ ++ [((ins.length : Nat) : Int)]) (t.2.2.2.1.getD i tIns.dflt))]).length) <|
     .need ((ins.length + ([(cutIns (at_ ++ [((ins.length : Nat) : Int)]) (t.2.2.2.1.getD i tIns.dflt))]).length) * 64 ≤ 140737488355328) <|
     .need (inR .i64 (((i : Nat) : Int) + 1)) <|
     .stop (lp (bodyOf Tryd.f22) 0) (.junk :: .c (.ro tI to) :: .c (.ptr 0 0 0 0) :: .junk :: .c (.ptr 1 0 0 0) :: .junk :: .c (.ptr 2 0 0 0) :: .c (.ptr 3 0 0 0) :: J16 (J4 (.c (.ro tIns t.2.2.2.1) :: .c (.int .i64 (t.2.2.2.1.length : Int)) :: .c (.int .i64 (((i : Nat) : Int) + 1)) :: J32 (J32 (J32 (J16 (J8 (J4 (.junk :: []))))))))) [.cells 29 (Ty.enc tTrace t), .cells 29 [.int .i64 0, .int .i64 0, .int .i64 0, .nilsl, .nilsl, .int .i64 0, .int .i64 0, .nilsl, .nilsl, .int .i64 0, .int .i64 0, .nilsl, .nilsl], .cells 97 [.osl 8 1 (at_ ++ [((ins.length : Nat) : Int)]).length, .bool (f && cutInsOk (at_ ++ [((ins.length : Nat) : Int)]) (t.2.2.2.1.getD i tIns.dflt))], .cells 29 [.int .i64 t.1, .int .i64 t.2.1, .int .i64 ((ins.length : Nat) : Int), .osl 10 8 (ins ++ [(cutIns (at_ ++ [((ins.length : Nat) : Int)]) (t.2.2.2.1.getD i tIns.dflt))]).length, .nilsl, .int .i64 0, .int .i64 0, .nilsl, .nilsl, .int .i64 0, .int .i64 0, .nilsl, .nilsl], .dead, .dead, .cells 46 [.int .i64 (t.2.2.2.1.getD i tIns.dflt).1, .int .i64 (t.2.2.2.1.getD i tIns.dflt).2.1, .int .i64 (t.2.2.2.1.getD i tIns.dflt).2.2.1, .int .i64 (t.2.2.2.1.getD i tIns.dflt).2.2.2.1, .int .i64 (t.2.2.2.1.getD i tIns.dflt).2.2.2.2.1, .int .i64 (t.2.2.2.1.getD i tIns.dflt).2.2.2.2.2.1, .int .i64 (t.2.2.2.1.getD i tIns.dflt).2.2.2.2.2.2.1, .int .i64 (t.2.2.2.1.getD i tIns.dflt).2.2.2.2.2.2.2], .vec 3 tI ([((ins.length : Nat) : Int)]), .ovec 3 tI (at_ ++ [((ins.length : Nat) : Int)]), .vec 46 tIns ([(cutIns (at_ ++ [((ins.length : Nat) : Int)]) (t.2.2.2.1.getD i tIns.dflt))]), .ovec 46 tIns (ins ++ [(cutIns (at_ ++ [((ins.length : Nat) : Int)]) (t.2.2.2.1.getD i tIns.dflt))])])
    (.ite (decide ((to.getD i tI.dflt) = (-1)))
     (.need (at_.length = at_.length) <|
      .need (0 = 0 ∧ 1 = ([(-1)]).length) <|
      .need ((at_.length + ([(-1)]).length) * 8 ≤ 140737488355328) <|
      .need (inR .i64 (((i : Nat) : Int) + 1)) <|
      .stop (lp (bodyOf Tryd.f22) 0) (.junk :: .c (.ro tI to) :: .c (.ptr 0 0 0 0) :: .junk :: .c (.ptr 1 0 0 0) :: .junk :: .c (.ptr 2 0 0 0) :: .c (.ptr 3 0 0 0) :: J16 (J4 (.c (.ro tIns t.2.2.2.1) :: .c (.int .i64 (t.2.2.2.1.length : Int)) :: .c (.int .i64 (((i : Nat) : Int) + 1)) :: J32 (J32 (J32 (J16 (J8 (J4 (.junk :: []))))))))) [.cells 29 (Ty.enc tTrace t), .cells 29 [.int .i64 0, .int .i64 0, .int .i64 0, .nilsl, .nilsl, .int .i64 0, .int .i64 0, .nilsl, .nilsl, .int .i64 0, .int .i64 0, .nilsl, .nilsl], .cells 97 [.osl 8 1 (at_ ++ [(-1)]).length, .bool f], .cells 29 [.int .i64 t.1, .int .i64 t.2.1, .int .i64 ((ins.length : Nat) : Int), .osl 5 8 ins.length, .nilsl, .int .i64 0, .int .i64 0, .nilsl, .nilsl, .int .i64 0, .int .i64 0, .nilsl, .nilsl], .dead, .ovec 46 tIns ins, .cells 46 [.int .i64 (t.2.2.2.1.getD i tIns.dflt).1, .int .i64 (t.2.2.2.1.getD i tIns.dflt).2.1, .int .i64 (t.2.2.2.1.getD i tIns.dflt).2.2.1, .int .i64 (t.2.2.2.1.getD i tIns.dflt).2.2.2.1, .int .i64 (t.2.2.2.1.getD i tIns.dflt).2.2.2.2.1, .int .i64 (t.2.2.2.1.getD i tIns.dflt).2.2.2.2.2.1, .int .i64 (t.2.2.2.1.getD i tIns.dflt).2.2.2.2.2.2.1, .int .i64 (t.2.2.2.1.getD i tIns.dflt).2.2.2.2.2.2.2], .vec 3 tI ([(-1)]), .ovec 3 tI (at_ ++ [(-1)])])
     (.ite (decide ((0 : Int) ≤ (to.getD i tI.dflt)))
      (.ite (decide ((to.getD i tI.dflt) < ((i : Nat) : Int)))
       (.need ((0 : Int) ≤ (to.getD i tI.dflt) ∧ ((to.getD i tI.dflt) : Int) < ((at_.length : Nat) : Int)) <|
        .need ((Int.toNat (to.getD i tI.dflt)) < at_.length) <|
        .need (at_.length = at_.length) <|
        .need (0 = 0 ∧ 1 = ([(at_.getD (Int.toNat (to.getD i tI.dflt)) tI.dflt)]).length) <|
        .need ((at_.length + ([(at_.getD (Int.toNat (to.getD i tI.dflt)) tI.dflt)]).length) * 8 ≤ 140737488355328) <|
        .need (inR .i64 (((i : Nat) : Int) + 1)) <|
        .stop (lp (bodyOf Tryd.f22) 0) (.junk :: .c (.ro tI to) :: .c (.ptr 0 0 0 0) :: .junk :: .c (.ptr 1 0 0 0) :: .junk :: .c (.ptr 2 0 0 0) :: .c (.ptr 3 0 0 0) :: J16 (J4 (.c (.ro tIns t.2.2.2.1) :: .c (.int .i64 (t.2.2.2.1.length : Int)) :: .c (.int .i64 (((i : Nat) : Int) + 1)) :: J32 (J32 (J32 (J16 (J8 (J4 (.junk :: []))))))))) [.cells 29 (Ty.enc tTrace t), .cells 29 [.int .i64 0, .int .i64 0, .int .i64 0, .nilsl, .nilsl, .int .i64 0, .int .i64 0, .nilsl, .nilsl, .int .i64 0, .int .i64 0, .nilsl, .nilsl], .cells 97 [.osl 8 1 (at_ ++ [(at_.getD (Int.toNat (to.getD i tI.dflt)) tI.dflt)]).length, .bool f], .cells 29 [.int .i64 t.1, .int .i64 t.2.1, .int .i64 ((ins.length : Nat) : Int), .osl 5 8 ins.length, .nilsl, .int .i64 0, .int .i64 0, .nilsl, .nilsl, .int .i64 0, .int .i64 0, .nilsl, .nilsl], .dead, .ovec 46 tIns ins, .cells 46 [.int .i64 (t.2.2.2.1.getD i tIns.dflt).1, .int .i64 (t.2.2.2.1.getD i tIns.dflt).2.1, .int .i64 (t.2.2.2.1.getD i tIns.dflt).2.2.1, .int .i64 (t.2.2.2.1.getD i tIns.dflt).2.2.2.1, .int .i64 (t.2.2.2.1.getD i tIns.dflt).2.2.2.2.1, .int .i64 (t.2.2.2.1.getD i tIns.dflt).2.2.2.2.2.1, .int .i64 (t.2.2.2.1.getD i tIns.dflt).2.2.2.2.2.2.1, .int .i64 (t.2.2.2.1.getD i tIns.dflt).2.2.2.2.2.2.2], .vec 3 tI ([(at_.getD (Int.toNat (to.getD i tI.dflt)) tI.dflt)]), .ovec 3 tI (at_ ++ [(at_.getD (Int.toNat (to.getD i tI.dflt)) tI.dflt)])])
       (.ret (.tup [.agg [.int .i64 0, .int .i64 0, .int .i64 0, .nilsl, .nilsl, .int .i64 0, .int .i64 0, .nilsl, .nilsl, .int .i64 0, .int .i64 0, .nilsl, .nilsl], .c (.int .i64 3)]) [.cells 29 (Ty.enc tTrace t), .cells 29 [.int .i64 0, .int .i64 0, .int .i64 0, .nilsl, .nilsl, .int .i64 0, .int .i64 0, .nilsl, .nilsl, .int .i64 0, .int .i64 0, .nilsl, .nilsl], .cells 97 [.osl 4 1 at_.length, .bool f], .cells 29 [.int .i64 t.1, .int .i64 t.2.1, .int .i64 ((ins.length : Nat) : Int), .osl 5 8 ins.length, .nilsl, .int .i64 0, .int .i64 0, .nilsl, .nilsl, .int .i64 0, .int .i64 0, .nilsl, .nilsl], .ovec 3 tI at_, .ovec 46 tIns ins, .cells 46 [.int .i64 (t.2.2.2.1.getD i tIns.dflt).1, .int .i64 (t.2.2.2.1.getD i tIns.dflt).2.1, .int .i64 (t.2.2.2.1.getD i tIns.dflt).2.2.1, .int .i64 (t.2.2.2.1.getD i tIns.dflt).2.2.2.1, .int .i64 (t.2.2.2.1.getD i tIns.dflt).2.2.2.2.1, .int .i64 (t.2.2.2.1.getD i tIns.dflt).2.2.2.2.2.1, .int .i64 (t.2.2.2.1.getD i tIns.dflt).2.2.2.2.2.2.1, .int .i64 (t.2.2.2.1.getD i tIns.dflt).2.2.2.2.2.2.2]]))
      (.ret (.tup [.agg [.int .i64 0, .int .i64 0, .int .i64 0, .nilsl, .nilsl, .int .i64 0, .int .i64 0, .nilsl, .nilsl, .int .i64 0, .int .i64 0, .nilsl, .nilsl], .c (.int .i64 3)]) [.cells 29 (Ty.enc tTrace t), .cells 29 [.int .i64 0, .int .i64 0, .int .i64 0, .nilsl, .nilsl, .int .i64 0, .int .i64 0, .nilsl, .nilsl, .int .i64 0, .int .i64 0, .nilsl, .nilsl], .cells 97 [.osl 4 1 at_.length, .bool f], .cells 29 [.int .i64 t.1, .int .i64 t.2.1, .int .i64 ((ins.length : Nat) : Int), .osl 5 8 ins.length, .nilsl, .int .i64 0, .int .i64 0, .nilsl, .nilsl, .int .i64 0, .int .i64 0, .nilsl, .nilsl], .ovec 3 tI at_, .ovec 46 tIns ins, .cells 46 [.int .i64 (t.2.2.2.1.getD i tIns.dflt).1, .int .i64 (t.2.2.2.1.getD i tIns.dflt).2.1, .int .i64 (t.2.2.2.1.getD i tIns.dflt).2.2.1, .int .i64 (t.2.2.2.1.getD i tIns.dflt).2.2.2.1, .int .i64 (t.2.2.2.1.getD i tIns.dflt).2.2.2.2.1, .int .i64 (t.2.2.2.1.getD i tIns.dflt).2.2.2.2.2.1, .int .i64 (t.2.2.2.1.getD i tIns.dflt).2.2.2.2.2.2.1, .int .i64 (t.2.2.2.1.getD i tIns.dflt).2.2.2.2.2.2.2]]))))
   (.need ((0 : Int) ≤ ((i : Nat) : Int) ∧ (((i : Nat) : Int) : Int) < (to.length : Int)) <|
    .need (i < to.length) <|
    .ite (decide ((to.getD i tI.dflt) = ((i : Nat) : Int)))
    (.need (at_.length = at_.length) <|
     .need (0 = 0 ∧ 1 = ([((ins.length : Nat) : Int)]).length) <|
     .need ((at_.length + ([((ins.length : Nat) : Int)]).length) * 8 ≤ 140737488355328) <|
     .callH 48 [.c (.ptr 2 0 0 0), .agg [.int .i64 (t.2.2.2.1.getD i tIns.dflt).1, .int .i64 (t.2.2.2.1.getD i tIns.dflt).2.1, .int .i64 (t.2.2.2.1.getD i tIns.dflt).2.2.1, .int .i64 (t.2.2.2.1.getD i tIns.dflt).2.2.2.1, .int .i64 (t.2.2.2.1.getD i tIns.dflt).2.2.2.2.1, .int .i64 (t.2.2.2.1.getD i tIns.dflt).2.2.2.2.2.1, .int .i64 (t.2.2.2.1.getD i tIns.dflt).2.2.2.2.2.2.1, .int .i64 (t.2.2.2.1.getD i tIns.dflt).2.2.2.2.2.2.2]] [.cells 29 (Ty.enc tTrace t), .cells 29 [.int .i64 0, .int .i64 0, .int .i64 0, .nilsl, .nilsl, .int .i64 0, .int .i64 0, .nilsl, .nilsl, .int .i64 0, .int .i64 0, .nilsl, .nilsl], .cells 97 [.osl 8 1 (at_ ++ [((ins.length : Nat) : Int)]).length, .bool f], .cells 29 [.int .i64 t.1, .int .i64 t.2.1, .int .i64 lo, .osl 5 8 ins.length, .nilsl, .int .i64 0, .int .i64 0, .nilsl, .nilsl, .int .i64 0, .int .i64 0, .nilsl, .nilsl], .dead, .ovec 46 tIns ins, .cells 46 [.int .i64 (t.2.2.2.1.getD i tIns.dflt).1, .int .i64 (t.2.2.2.1.getD i tIns.dflt).2.1, .int .i64 (t.2.2.2.1.getD i tIns.dflt).2.2.1, .int .i64 (t.2.2.2.1.getD i tIns.dflt).2.2.2.1, .int .i64 (t.2.2.2.1.getD i tIns.dflt).2.2.2.2.1, .int .i64 (t.2.2.2.1.getD i tIns.dflt).2.2.2.2.2.1, .int .i64 (t.2.2.2.1.getD i tIns.dflt).2.2.2.2.2.2.1, .int .i64 (t.2.2.2.1.getD i tIns.dflt).2.2.2.2.2.2.2], .vec 3 tI ([((ins.length : Nat) : Int)]), .ovec 3 tI (at_ ++ [((ins.length : Nat) : Int)])] (.agg [.int .i64 (cutIns (at_ ++ [((ins.length : Nat) : Int)]) (t.2.2.2.1.getD i tIns.dflt)).1, .int .i64 (cutIns (at_ ++ [((ins.length : Nat) : Int)]) (t.2.2.2.1.getD i tIns.dflt)).2.1, .int .i64 (cutIns (at_ ++ [((ins.length : Nat) : Int)]) (t.2.2.2.1.getD i tIns.dflt)).2.2.1, .int .i64 (cutIns (at_ ++ [((ins.length : Nat) : Int)]) (t.2.2.2.1.getD i tIns.dflt)).2.2.2.1, .int .i64 (cutIns (at_ ++ [((ins.length : Nat) : Int)]) (t.2.2.2.1.getD i tIns.dflt)).2.2.2.2.1, .int .i64 (cutIns (at_ ++ [((ins.length : Nat) : Int)]) (t.2.2.2.1.getD i tIns.dflt)).2.2.2.2.2.1, .int .i64 (cutIns (at_ ++ [((ins.length : Nat) : Int)]) (t.2.2.2.1.getD i tIns.dflt)).2.2.2.2.2.2.1, .int .i64 (cutIns (at_ ++ [((ins.length : Nat) : Int)]) (t.2.2.2.1.getD i tIns.dflt)).2.2.2.2.2.2.2]) [.cells 29 (Ty.enc tTrace t), .cells 29 [.int .i64 0, .int .i64 0, .int .i64 0, .nilsl, .nilsl, .int .i64 0, .int .i64 0, .nilsl, .nilsl, .int .i64 0, .int .i64 0, .nilsl, .nilsl], .cells 97 [.osl 8 1 (at_ ++ [((ins.length : Nat) : Int)]).length, .bool (f && cutInsOk (at_ ++ [((ins.length : Nat) : Int)]) (t.2.2.2.1.getD i tIns.dflt))], .cells 29 [.int .i64 t.1, .int .i64 t.2.1, .int .i64 lo, .osl 5 8 ins.length, .nilsl, .int .i64 0, .int .i64 0, .nilsl, .nilsl, .int .i64 0, .int .i64 0, .nilsl, .nilsl], .dead, .ovec 46 tIns ins, .cells 46 [.int .i64 (t.2.2.2.1.getD i tIns.dflt).1, .int .i64 (t.2.2.2.1.getD i tIns.dflt).2.1, .int .i64 (t.2.2.2.1.getD i tIns.dflt).2.2.1, .int .i64 (t.2.2.2.1.getD i tIns.dflt).2.2.2.1, .int .i64 (t.2.2.2.1.getD i tIns.dflt).2.2.2.2.1, .int .i64 (t.2.2.2.1.getD i tIns.dflt).2.2.2.2.2.1, .int .i64 (t.2.2.2.1.getD i tIns.dflt).2.2.2.2.2.2.1, .int .i64 (t.2.2.2.1.getD i tIns.dflt).2.2.2.2.2.2.2], .vec 3 tI ([((ins.length : Nat) : Int)]), .ovec 3 tI (at_ ++ [((ins.length : Nat) : Int)])] [2, 8] <|
     .need (ins.length = ins.length) <|
     .need (0 = 0 ∧ 1 = ([(cutIns (at_ ++ [((ins.length : Nat) : Int)]) (t.2.2.2.1.getD i tIns.dflt))]).length) <|
     .need ((ins.length + ([(cutIns (at_ ++ [((ins.length : Nat) : Int)]) (t.2.2.2.1.getD i tIns.dflt))]).length) * 64 ≤ 140737488355328) <|
     .need (inR .i64 (((i : Nat) : Int) + 1)) <|
     .stop (lp (bodyOf Tryd.f22) 0) (.junk :: .c (.ro tI to) :: .c (.ptr 0 0 0 0) :: .junk :: .c (.ptr 1 0 0 0) :: .junk :: .c (.ptr 2 0 0 0) :: .c (.ptr 3 0 0 0) :: J16 (J4 (.c (.ro tIns t.2.2.2.1) :: .c (.int .i64 (t.2.2.2.1.length : Int)) :: .c (.int .i64 (((i : Nat) : Int) + 1)) :: J32 (J32 (J32 (J16 (J8 (J4 (.junk :: []))))))))) [.cells 29 (Ty.enc tTrace t), .cells 29 [.int .i64 0, .int .i64 0, .int .i64 0, .nilsl, .nilsl, .int .i64 0, .int .i64 0, .nilsl, .nilsl, .int .i64 0, .int .i64 0, .nilsl, .nilsl], .cells 97 [.osl 8 1 (at_ ++ [((ins.length : Nat) : Int)]).length, .bool (f && cutInsOk (at_ ++ [((ins.length : Nat) : Int)]) (t.2.2.2.1.getD i tIns.dflt))], .cells 29 [.int .i64 t.1, .int .i64 t.2.1, .int .i64 lo, .osl 10 8 (ins ++ [(cutIns (at_ ++ [((ins.length : Nat) : Int)]) (t.2.2.2.1.getD i tIns.dflt))]).length, .nilsl, .int .i64 0, .int .i64 0, .nilsl, .nilsl, .int .i64 0, .int .i64 0, .nilsl, .nilsl], .dead, .dead, .cells 46 [.int .i64 (t.2.2.2.1.getD i tIns.dflt).1, .int .i64 (t.2.2.2.1.getD i tIns.dflt).2.1, .int .i64 (t.2.2.2.1.getD i tIns.dflt).2.2.1, .int .i64 (t.2.2.2.1.getD i tIns.dflt).2.2.2.1, .int .i64 (t.2.2.2.1.getD i tIns.dflt).2.2.2.2.1, .int .i64 (t.2.2.2.1.getD i tIns.dflt).2.2.2.2.2.1, .int .i64 (t.2.2.2.1.getD i tIns.dflt).2.2.2.2.2.2.1, .int .i64 (t.2.2.2.1.getD i tIns.dflt).2.2.2.2.2.2.2], .vec 3 tI ([((ins.length : Nat) : Int)]), .ovec 3 tI (at_ ++ [((ins.length : Nat) : Int)]), .vec 46 tIns ([(cutIns (at_ ++ [((ins.length : Nat) : Int)]) (t.2.2.2.1.getD i tIns.dflt))]), .ovec 46 tIns (ins ++ [(cutIns (at_ ++ [((ins.length : Nat) : Int)]) (t.2.2.2.1.getD i tIns.dflt))])])
    (.ite (decide ((to.getD i tI.dflt) = (-1)))
     (.need (at_.length = at_.length) <|
      .need (0 = 0 ∧ 1 = ([(-1)]).length) <|
      .need ((at_.length + ([(-1)]).length) * 8 ≤ 140737488355328) <|
      .need (inR .i64 (((i : Nat) : Int) + 1)) <|
      .stop (lp (bodyOf Tryd.f22) 0) (.junk :: .c (.ro tI to) :: .c (.ptr 0 0 0 0) :: .junk :: .c (.ptr 1 0 0 0) :: .junk :: .c (.ptr 2 0 0 0) :: .c (.ptr 3 0 0 0) :: J16 (J4 (.c (.ro tIns t.2.2.2.1) :: .c (.int .i64 (t.2.2.2.1.length : Int)) :: .c (.int .i64 (((i : Nat) : Int) + 1)) :: J32 (J32 (J32 (J16 (J8 (J4 (.junk :: []))))))))) [.cells 29 (Ty.enc tTrace t), .cells 29 [.int .i64 0, .int .i64 0, .int .i64 0, .nilsl, .nilsl, .int .i64 0, .int .i64 0, .nilsl, .nilsl, .int .i64 0, .int .i64 0, .nilsl, .nilsl], .cells 97 [.osl 8 1 (at_ ++ [(-1)]).length, .bool f], .cells 29 [.int .i64 t.1, .int .i64 t.2.1, .int .i64 lo, .osl 5 8 ins.length, .nilsl, .int .i64 0, .int .i64 0, .nilsl, .nilsl, .int .i64 0, .int .i64 0, .nilsl, .nilsl], .dead, .ovec 46 tIns ins, .cells 46 [.int .i64 (t.2.2.2.1.getD i tIns.dflt).1, .int .i64 (t.2.2.2.1.getD i tIns.dflt).2.1, .int .i64 (t.2.2.2.1.getD i tIns.dflt).2.2.1, .int .i64 (t.2.2.2.1.getD i tIns.dflt).2.2.2.1, .int .i64 (t.2.2.2.1.getD i tIns.dflt).2.2.2.2.1, .int .i64 (t.2.2.2.1.getD i tIns.dflt).2.2.2.2.2.1, .int .i64 (t.2.2.2.1.getD i tIns.dflt).2.2.2.2.2.2.1, .int .i64 (t.2.2.2.1.getD i tIns.dflt).2.2.2.2.2.2.2], .vec 3 tI ([(-1)]), .ovec 3 tI (at_ ++ [(-1)])])
     (.ite (decide ((0 : Int) ≤ (to.getD i tI.dflt)))
      (.ite (decide ((to.getD i tI.dflt) < ((i : Nat) : Int)))
       (.need ((0 : Int) ≤ (to.getD i tI.dflt) ∧ ((to.getD i tI.dflt) : Int) < ((at_.length : Nat) : Int)) <|
        .need ((Int.toNat (to.getD i tI.dflt)) < at_.length) <|
        .need (at_.length = at_.length) <|
        .need (0 = 0 ∧ 1 = ([(at_.getD (Int.toNat (to.getD i tI.dflt)) tI.dflt)]).length) <|
        .need ((at_.length + ([(at_.getD (Int.toNat (to.getD i tI.dflt)) tI.dflt)]).length) * 8 ≤ 140737488355328) <|
        .need (inR .i64 (((i : Nat) : Int) + 1)) <|
        .stop (lp (bodyOf Tryd.f22) 0) (.junk :: .c (.ro tI to) :: .c (.ptr 0 0 0 0) :: .junk :: .c (.ptr 1 0 0 0) :: .junk :: .c (.ptr 2 0 0 0) :: .c (.ptr 3 0 0 0) :: J16 (J4 (.c (.ro tIns t.2.2.2.1) :: .c (.int .i64 (t.2.2.2.1.length : Int)) :: .c (.int .i64 (((i : Nat) : Int) + 1)) :: J32 (J32 (J32 (J16 (J8 (J4 (.junk :: []))))))))) [.cells 29 (Ty.enc tTrace t), .cells 29 [.int .i64 0, .int .i64 0, .int .i64 0, .nilsl, .nilsl, .int .i64 0, .int .i64 0, .nilsl, .nilsl, .int .i64 0, .int .i64 0, .nilsl, .nilsl], .cells 97 [.osl 8 1 (at_ ++ [(at_.getD (Int.toNat (to.getD i tI.dflt)) tI.dflt)]).length, .bool f], .cells 29 [.int .i64 t.1, .int .i64 t.2.1, .int .i64 lo, .osl 5 8 ins.length, .nilsl, .int .i64 0, .int .i64 0, .nilsl, .nilsl, .int .i64 0, .int .i64 0, .nilsl, .nilsl], .dead, .ovec 46 tIns ins, .cells 46 [.int .i64 (t.2.2.2.1.getD i tIns.dflt).1, .int .i64 (t.2.2.2.1.getD i tIns.dflt).2.1, .int .i64 (t.2.2.2.1.getD i tIns.dflt).2.2.1, .int .i64 (t.2.2.2.1.getD i tIns.dflt).2.2.2.1, .int .i64 (t.2.2.2.1.getD i tIns.dflt).2.2.2.2.1, .int .i64 (t.2.2.2.1.getD i tIns.dflt).2.2.2.2.2.1, .int .i64 (t.2.2.2.1.getD i tIns.dflt).2.2.2.2.2.2.1, .int .i64 (t.2.2.2.1.getD i tIns.dflt).2.2.2.2.2.2.2], .vec 3 tI ([(at_.getD (Int.toNat (to.getD i tI.dflt)) tI.dflt)]), .ovec 3 tI (at_ ++ [(at_.getD (Int.toNat (to.getD i tI.dflt)) tI.dflt)])])
       (.ret (.tup [.agg [.int .i64 0, .int .i64 0, .int .i64 0, .nilsl, .nilsl, .int .i64 0, .int .i64 0, .nilsl, .nilsl, .int .i64 0, .int .i64 0, .nilsl, .nilsl], .c (.int .i64 3)]) [.cells 29 (Ty.enc tTrace t), .cells 29 [.int .i64 0, .int .i64 0, .int .i64 0, .nilsl, .nilsl, .int .i64 0, .int .i64 0, .nilsl, .nilsl, .int .i64 0, .int .i64 0, .nilsl, .nilsl], .cells 97 [.osl 4 1 at_.length, .bool f], .cells 29 [.int .i64 t.1, .int .i64 t.2.1, .int .i64 lo, .osl 5 8 ins.length, .nilsl, .int .i64 0, .int .i64 0, .nilsl, .nilsl, .int .i64 0, .int .i64 0, .nilsl, .nilsl], .ovec 3 tI at_, .ovec 46 tIns ins, .cells 46 [.int .i64 (t.2.2.2.1.getD i tIns.dflt).1, .int .i64 (t.2.2.2.1.getD i tIns.dflt).2.1, .int .i64 (t.2.2.2.1.getD i tIns.dflt).2.2.1, .int .i64 (t.2.2.2.1.getD i tIns.dflt).2.2.2.1, .int .i64 (t.2.2.2.1.getD i tIns.dflt).2.2.2.2.1, .int .i64 (t.2.2.2.1.getD i tIns.dflt).2.2.2.2.2.1, .int .i64 (t.2.2.2.1.getD i tIns.dflt).2.2.2.2.2.2.1, .int .i64 (t.2.2.2.1.getD i tIns.dflt).2.2.2.2.2.2.2]]))
      (.ret (.tup [.agg [.int .i64 0, .int .i64 0, .int .i64 0, .nilsl, .nilsl, .int .i64 0, .int .i64 0, .nilsl, .nilsl, .int .i64 0, .int .i64 0, .nilsl, .nilsl], .c (.int .i64 3)]) [.cells 29 (Ty.enc tTrace t), .cells 29 [.int .i64 0, .int .i64 0, .int .i64 0, .nilsl, .nilsl, .int .i64 0, .int .i64 0, .nilsl, .nilsl, .int .i64 0, .int .i64 0, .nilsl, .nilsl], .cells 97 [.osl 4 1 at_.length, .bool f], .cells 29 [.int .i64 t.1, .int .i64 t.2.1, .int .i64 lo, .osl 5 8 ins.length, .nilsl, .int .i64 0, .int .i64 0, .nilsl, .nilsl, .int .i64 0, .int .i64 0, .nilsl, .nilsl], .ovec 3 tI at_, .ovec 46 tIns ins, .cells 46 [.int .i64 (t.2.2.2.1.getD i tIns.dflt).1, .int .i64 (t.2.2.2.1.getD i tIns.dflt).2.1, .int .i64 (t.2.2.2.1.getD i tIns.dflt).2.2.1, .int .i64 (t.2.2.2.1.getD i tIns.dflt).2.2.2.1, .int .i64 (t.2.2.2.1.getD i tIns.dflt).2.2.2.2.1, .int .i64 (t.2.2.2.1.getD i tIns.dflt).2.2.2.2.2.1, .int .i64 (t.2.2.2.1.getD i tIns.dflt).2.2.2.2.2.2.1, .int .i64 (t.2.2.2.1.getD i tIns.dflt).2.2.2.2.2.2.2]])))))
  (.ite (decide ((t.2.2.2.1.length : Int) ≤ t.2.2.1))
   (.ite (decide (t.2.2.1 ≤ 0))
    (.stop (rg (bodyOf Tryd.f22) 24) (.junk :: .c (.ro tI to) :: .c (.ptr 0 0 0 0) :: .junk :: .c (.ptr 1 0 0 0) :: .junk :: .c (.ptr 2 0 0 0) :: .c (.ptr 3 0 0 0) :: J16 (J4 (.c (.ro tIns t.2.2.2.1) :: .c (.int .i64 (t.2.2.2.1.length : Int)) :: .c (.int .i64 ((i : Nat) : Int)) :: J32 (J32 (J32 (J16 (J8 (J4 (.junk :: []))))))))) [.cells 29 (Ty.enc tTrace t), .cells 29 [.int .i64 0, .int .i64 0, .int .i64 0, .nilsl, .nilsl, .int .i64 0, .int .i64 0, .nilsl, .nilsl, .int .i64 0, .int .i64 0, .nilsl, .nilsl], .cells 97 [.osl 4 1 at_.length, .bool f], .cells 29 [.int .i64 t.1, .int .i64 t.2.1, .int .i64 0, .osl 5 8 ins.length, .nilsl, .int .i64 0, .int .i64 0, .nilsl, .nilsl, .int .i64 0, .int .i64 0, .nilsl, .nilsl], .ovec 3 tI at_, .ovec 46 tIns ins])
    (.stop (rg (bodyOf Tryd.f22) 24) (.junk :: .c (.ro tI to) :: .c (.ptr 0 0 0 0) :: .junk :: .c (.ptr 1 0 0 0) :: .junk :: .c (.ptr 2 0 0 0) :: .c (.ptr 3 0 0 0) :: J16 (J4 (.c (.ro tIns t.2.2.2.1) :: .c (.int .i64 (t.2.2.2.1.length : Int)) :: .c (.int .i64 ((i : Nat) : Int)) :: J32 (J32 (J32 (J16 (J8 (J4 (.junk :: []))))))))) [.cells 29 (Ty.enc tTrace t), .cells 29 [.int .i64 0, .int .i64 0, .int .i64 0, .nilsl, .nilsl, .int .i64 0, .int .i64 0, .nilsl, .nilsl, .int .i64 0, .int .i64 0, .nilsl, .nilsl], .cells 97 [.osl 4 1 at_.length, .bool f], .cells 29 [.int .i64 t.1, .int .i64 t.2.1, .int .i64 ((ins.length : Nat) : Int), .osl 5 8 ins.length, .nilsl, .int .i64 0, .int .i64 0, .nilsl, .nilsl, .int .i64 0, .int .i64 0, .nilsl, .nilsl], .ovec 3 tI at_, .ovec 46 tIns ins]))
   (.ite (decide (t.2.2.1 ≤ 0))
    (.stop (rg (bodyOf Tryd.f22) 24) (.junk :: .c (.ro tI to) :: .c (.ptr 0 0 0 0) :: .junk :: .c (.ptr 1 0 0 0) :: .junk :: .c (.ptr 2 0 0 0) :: .c (.ptr 3 0 0 0) :: J16 (J4 (.c (.ro tIns t.2.2.2.1) :: .c (.int .i64 (t.2.2.2.1.length : Int)) :: .c (.int .i64 ((i : Nat) : Int)) :: J32 (J32 (J32 (J16 (J8 (J4 (.junk :: []))))))))) [.cells 29 (Ty.enc tTrace t), .cells 29 [.int .i64 0, .int .i64 0, .int .i64 0, .nilsl, .nilsl, .int .i64 0, .int .i64 0, .nilsl, .nilsl, .int .i64 0, .int .i64 0, .nilsl, .nilsl], .cells 97 [.osl 4 1 at_.length, .bool f], .cells 29 [.int .i64 t.1, .int .i64 t.2.1, .int .i64 0, .osl 5 8 ins.length, .nilsl, .int .i64 0, .int .i64 0, .nilsl, .nilsl, .int .i64 0, .int .i64 0, .nilsl, .nilsl], .ovec 3 tI at_, .ovec 46 tIns ins])
    (.stop (rg (bodyOf Tryd.f22) 24) (.junk :: .c (.ro tI to) :: .c (.ptr 0 0 0 0) :: .junk :: .c (.ptr 1 0 0 0) :: .junk :: .c (.ptr 2 0 0 0) :: .c (.ptr 3 0 0 0) :: J16 (J4 (.c (.ro tIns t.2.2.2.1) :: .c (.int .i64 (t.2.2.2.1.length : Int)) :: .c (.int .i64 ((i : Nat) : Int)) :: J32 (J32 (J32 (J16 (J8 (J4 (.junk :: []))))))))) [.cells 29 (Ty.enc tTrace t), .cells 29 [.int .i64 0, .int .i64 0, .int .i64 0, .nilsl, .nilsl, .int .i64 0, .int .i64 0, .nilsl, .nilsl, .int .i64 0, .int .i64 0, .nilsl, .nilsl], .cells 97 [.osl 4 1 at_.length, .bool f], .cells 29 [.int .i64 t.1, .int .i64 t.2.1, .int .i64 lo, .osl 5 8 ins.length, .nilsl, .int .i64 0, .int .i64 0, .nilsl, .nilsl, .int .i64 0, .int .i64 0, .nilsl, .nilsl], .ovec 3 tI at_, .ovec 46 tIns ins])))
theorem cut_l0_R_ok (t : ETrace) (to : List Int) (i : Nat) (f : Bool) (lo : Int) (at_ : List Int) (ins : List EIns) : aRound Tryd.prog oc23 Tryd.f22 cut_lv 3000 (lp (bodyOf Tryd.f22) 0) (.junk :: .c (.ro tI to) :: .c (.ptr 0 0 0 0) :: .junk :: .c (.ptr 1 0 0 0) :: .junk :: .c (.ptr 2 0 0 0) :: .c (.ptr 3 0 0 0) :: J16 (J4 (.c (.ro tIns t.2.2.2.1) :: .c (.int .i64 (t.2.2.2.1.length : Int)) :: .c (.int .i64 ((i : Nat) : Int)) :: J32 (J32 (J32 (J16 (J8 (J4 (.junk :: []))))))))) [.cells 29 (Ty.enc tTrace t), .cells 29 [.int .i64 0, .int .i64 0, .int .i64 0, .nilsl, .nilsl, .int .i64 0, .int .i64 0, .nilsl, .nilsl, .int .i64 0, .int .i64 0, .nilsl, .nilsl], .cells 97 [.osl 4 1 at_.length, .bool f], .cells 29 [.int .i64 t.1, .int .i64 t.2.1, .int .i64 lo, .osl 5 8 ins.length, .nilsl, .int .i64 0, .int .i64 0, .nilsl, .nilsl, .int .i64 0, .int .i64 0, .nilsl, .nilsl], .ovec 3 tI at_, .ovec 46 tIns ins] = cut_l0_R t to i f lo at_ ins := by kernel_rfl
noncomputable def cut_r24_R (t : ETrace) (to : List Int) (f : Bool) (lo : Int) (at_ : List Int) (ins : List EIns) : Tree :=
  .stop (lp (bodyOf Tryd.f22) 1) (J2 (.c (.ptr 0 0 0 0) :: .junk :: .c (.ptr 1 0 0 0) :: .junk :: .c (.ptr 2 0 0 0) :: .c (.ptr 3 0 0 0) :: J32 (J32 (J32 (J16 (J4 (.c (.ro tExit t.2.2.2.2.1) :: .c (.int .i64 (t.2.2.2.2.1.length : Int)) :: .c (.int .i64 0) :: J16 (J8 (J4 (.junk :: [])))))))))) [.cells 29 (Ty.enc tTrace t), .cells 29 [.int .i64 0, .int .i64 0, .int .i64 0, .nilsl, .nilsl, .int .i64 0, .int .i64 0, .nilsl, .nilsl, .int .i64 0, .int .i64 0, .nilsl, .nilsl], .cells 97 [.osl 4 1 at_.length, .bool f], .cells 29 [.int .i64 t.1, .int .i64 t.2.1, .int .i64 lo, .osl 5 8 ins.length, .nilsl, .int .i64 0, .int .i64 0, .nilsl, .nilsl, .int .i64 0, .int .i64 0, .nilsl, .nilsl], .ovec 3 tI at_, .ovec 46 tIns ins]
theorem cut_r24_R_ok (t : ETrace) (to : List Int) (f : Bool) (lo : Int) (at_ : List Int) (ins : List EIns) : aRound Tryd.prog oc23 Tryd.f22 cut_lv 3000 (rg (bodyOf Tryd.f22) 24) (J2 (.c (.ptr 0 0 0 0) :: .junk :: .c (.ptr 1 0 0 0) :: .junk :: .c (.ptr 2 0 0 0) :: .c (.ptr 3 0 0 0) :: J32 (J32 (J32 (J32 (J16 (J4 ([])))))))) [.cells 29 (Ty.enc tTrace t), .cells 29 [.int .i64 0, .int .i64 0, .int .i64 0, .nilsl, .nilsl, .int .i64 0, .int .i64 0, .nilsl, .nilsl, .int .i64 0, .int .i64 0, .nilsl, .nilsl], .cells 97 [.osl 4 1 at_.length, .bool f], .cells 29 [.int .i64 t.1, .int .i64 t.2.1, .int .i64 lo, .osl 5 8 ins.length, .nilsl, .int .i64 0, .int .i64 0, .nilsl, .nilsl, .int .i64 0, .int .i64 0, .nilsl, .nilsl], .ovec 3 tI at_, .ovec 46 tIns ins] = cut_r24_R t to f lo at_ ins := by kernel_rfl
noncomputable def cut_l1_R (t : ETrace) (to : List Int) (k : Nat) (f : Bool) (lo : Int) (at_ : List Int) (ins : List EIns) (xs : List EExit) : Tree :=
  .ite (decide (((k : Nat) : Int) < (t.2.2.2.2.1.length : Int)))
  (.need ((0 : Int) ≤ ((k : Nat) : Int) ∧ (((k : Nat) : Int) : Int) < (t.2.2.2.2.1.length : Int)) <|
   .need (k < t.2.2.2.2.1.length) <|
   .callH 49 [.c (.ptr 2 0 0 0), .agg [.int .i64 (t.2.2.2.2.1.getD k tExit.dflt).1, .int .i64 (t.2.2.2.2.1.getD k tExit.dflt).2.1, .ro tVal (t.2.2.2.2.1.getD k tExit.dflt).2.2.1, .ro tMake (t.2.2.2.2.1.getD k tExit.dflt).2.2.2]] [.cells 29 (Ty.enc tTrace t), .cells 29 [.int .i64 0, .int .i64 0, .int .i64 0, .nilsl, .nilsl, .int .i64 0, .int .i64 0, .nilsl, .nilsl, .int .i64 0, .int .i64 0, .nilsl, .nilsl], .cells 97 [.osl 4 1 at_.length, .bool f], .cells 29 [.int .i64 t.1, .int .i64 t.2.1, .int .i64 lo, .osl 5 8 ins.length, .osl 6 4 xs.length, .int .i64 0, .int .i64 0, .nilsl, .nilsl, .int .i64 0, .int .i64 0, .nilsl, .nilsl], .ovec 3 tI at_, .ovec 46 tIns ins, .ovec 27 tExit xs, .cells 27 [.int .i64 (t.2.2.2.2.1.getD k tExit.dflt).1, .int .i64 (t.2.2.2.2.1.getD k tExit.dflt).2.1, .ro tVal (t.2.2.2.2.1.getD k tExit.dflt).2.2.1, .ro tMake (t.2.2.2.2.1.getD k tExit.dflt).2.2.2]] (.agg [.int .i64 (cutExit at_ (t.2.2.2.2.1.getD k tExit.dflt)).1, .int .i64 (cutExit at_ (t.2.2.2.2.1.getD k tExit.dflt)).2.1, .ro tVal (cutExit at_ (t.2.2.2.2.1.getD k tExit.dflt)).2.2.1, .ro tMake (cutExit at_ (t.2.2.2.2.1.getD k tExit.dflt)).2.2.2]) [.cells 29 (Ty.enc tTrace t), .cells 29 [.int .i64 0, .int .i64 0, .int .i64 0, .nilsl, .nilsl, .int .i64 0, .int .i64 0, .nilsl, .nilsl, .int .i64 0, .int .i64 0, .nilsl, .nilsl], .cells 97 [.osl 4 1 at_.length, .bool (f && cutExitOk at_ (t.2.2.2.2.1.getD k tExit.dflt))], .cells 29 [.int .i64 t.1, .int .i64 t.2.1, .int .i64 lo, .osl 5 8 ins.length, .osl 6 4 xs.length, .int .i64 0, .int .i64 0, .nilsl, .nilsl, .int .i64 0, .int .i64 0, .nilsl, .nilsl], .ovec 3 tI at_, .ovec 46 tIns ins, .ovec 27 tExit xs, .cells 27 [.int .i64 (t.2.2.2.2.1.getD k tExit.dflt).1, .int .i64 (t.2.2.2.2.1.getD k tExit.dflt).2.1, .ro tVal (t.2.2.2.2.1.getD k tExit.dflt).2.2.1, .ro tMake (t.2.2.2.2.1.getD k tExit.dflt).2.2.2]] [2, 4] <|
   .need (xs.length = xs.length) <|
   .need (0 = 0 ∧ 1 = ([(cutExit at_ (t.2.2.2.2.1.getD k tExit.dflt))]).length) <|
   .need ((xs.length + ([(cutExit at_ (t.2.2.2.2.1.getD k tExit.dflt))]).length) * 64 ≤ 140737488355328) <|
   .need (inR .i64 (((k : Nat) : Int) + 1)) <|
   .stop (lp (bodyOf Tryd.f22) 1) (J2 (.c (.ptr 0 0 0 0) :: .junk :: .c (.ptr 1 0 0 0) :: .junk :: .c (.ptr 2 0 0 0) :: .c (.ptr 3 0 0 0) :: J32 (J32 (J32 (J16 (J4 (.c (.ro tExit t.2.2.2.2.1) :: .c (.int .i64 (t.2.2.2.2.1.length : Int)) :: .c (.int .i64 (((k : Nat) : Int) + 1)) :: J16 (J8 (J4 (.junk :: [])))))))))) [.cells 29 (Ty.enc tTrace t), .cells 29 [.int .i64 0, .int .i64 0, .int .i64 0, .nilsl, .nilsl, .int .i64 0, .int .i64 0, .nilsl, .nilsl, .int .i64 0, .int .i64 0, .nilsl, .nilsl], .cells 97 [.osl 4 1 at_.length, .bool (f && cutExitOk at_ (t.2.2.2.2.1.getD k tExit.dflt))], .cells 29 [.int .i64 t.1, .int .i64 t.2.1, .int .i64 lo, .osl 5 8 ins.length, .osl 9 4 (xs ++ [(cutExit at_ (t.2.2.2.2.1.getD k tExit.dflt))]).length, .int .i64 0, .int .i64 0, .nilsl, .nilsl, .int .i64 0, .int .i64 0, .nilsl, .nilsl], .ovec 3 tI at_, .ovec 46 tIns ins, .dead, .cells 27 [.int .i64 (t.2.2.2.2.1.getD k tExit.dflt).1, .int .i64 (t.2.2.2.2.1.getD k tExit.dflt).2.1, .ro tVal (t.2.2.2.2.1.getD k tExit.dflt).2.2.1, .ro tMake (t.2.2.2.2.1.getD k tExit.dflt).2.2.2], .vec 27 tExit ([(cutExit at_ (t.2.2.2.2.1.getD k tExit.dflt))]), .ovec 27 tExit (xs ++ [(cutExit at_ (t.2.2.2.2.1.getD k tExit.dflt))])])
  (.callH 49 [.c (.ptr 2 0 0 0), .agg [.int .i64 t.2.2.2.2.2.1.1, .int .i64 t.2.2.2.2.2.1.2.1, .ro tVal t.2.2.2.2.2.1.2.2.1, .ro tMake t.2.2.2.2.2.1.2.2.2]] [.cells 29 (Ty.enc tTrace t), .cells 29 [.int .i64 0, .int .i64 0, .int .i64 0, .nilsl, .nilsl, .int .i64 0, .int .i64 0, .nilsl, .nilsl, .int .i64 0, .int .i64 0, .nilsl, .nilsl], .cells 97 [.osl 4 1 at_.length, .bool f], .cells 29 [.int .i64 t.1, .int .i64 t.2.1, .int .i64 lo, .osl 5 8 ins.length, .osl 6 4 xs.length, .int .i64 0, .int .i64 0, .nilsl, .nilsl, .int .i64 0, .int .i64 0, .nilsl, .nilsl], .ovec 3 tI at_, .ovec 46 tIns ins, .ovec 27 tExit xs] (.agg [.int .i64 (cutExit at_ t.2.2.2.2.2.1).1, .int .i64 (cutExit at_ t.2.2.2.2.2.1).2.1, .ro tVal (cutExit at_ t.2.2.2.2.2.1).2.2.1, .ro tMake (cutExit at_ t.2.2.2.2.2.1).2.2.2]) [.cells 29 (Ty.enc tTrace t), .cells 29 [.int .i64 0, .int .i64 0, .int .i64 0, .nilsl, .nilsl, .int .i64 0, .int .i64 0, .nilsl, .nilsl, .int .i64 0, .int .i64 0, .nilsl, .nilsl], .cells 97 [.osl 4 1 at_.length, .bool (f && cutExitOk at_ t.2.2.2.2.2.1)], .cells 29 [.int .i64 t.1, .int .i64 t.2.1, .int .i64 lo, .osl 5 8 ins.length, .osl 6 4 xs.length, .int .i64 0, .int .i64 0, .nilsl, .nilsl, .int .i64 0, .int .i64 0, .nilsl, .nilsl], .ovec 3 tI at_, .ovec 46 tIns ins, .ovec 27 tExit xs] [2, 4] <|
   .callH 49 [.c (.ptr 2 0 0 0), .agg [.int .i64 t.2.2.2.2.2.2.1, .int .i64 t.2.2.2.2.2.2.2.1, .ro tVal t.2.2.2.2.2.2.2.2.1, .ro tMake t.2.2.2.2.2.2.2.2.2]] [.cells 29 (Ty.enc tTrace t), .cells 29 [.int .i64 0, .int .i64 0, .int .i64 0, .nilsl, .nilsl, .int .i64 0, .int .i64 0, .nilsl, .nilsl, .int .i64 0, .int .i64 0, .nilsl, .nilsl], .cells 97 [.osl 4 1 at_.length, .bool (f && cutExitOk at_ t.2.2.2.2.2.1)], .cells 29 [.int .i64 t.1, .int .i64 t.2.1, .int .i64 lo, .osl 5 8 ins.length, .osl 6 4 xs.length, .int .i64 0, .int .i64 0, .nilsl, .nilsl, .int .i64 0, .int .i64 0, .nilsl, .nilsl], .ovec 3 tI at_, .ovec 46 tIns ins, .ovec 27 tExit xs] (.agg [.int .i64 (cutExit at_ t.2.2.2.2.2.2).1, .int .i64 (cutExit at_ t.2.2.2.2.2.2).2.1, .ro tVal (cutExit at_ t.2.2.2.2.2.2).2.2.1, .ro tMake (cutExit at_ t.2.2.2.2.2.2).2.2.2]) [.cells 29 (Ty.enc tTrace t), .cells 29 [.int .i64 0, .int .i64 0, .int .i64 0, .nilsl, .nilsl, .int .i64 0, .int .i64 0, .nilsl, .nilsl, .int .i64 0, .int .i64 0, .nilsl, .nilsl], .cells 97 [.osl 4 1 at_.length, .bool ((f && cutExitOk at_ t.2.2.2.2.2.1) && cutExitOk at_ t.2.2.2.2.2.2)], .cells 29 [.int .i64 t.1, .int .i64 t.2.1, .int .i64 lo, .osl 5 8 ins.length, .osl 6 4 xs.length, .int .i64 0, .int .i64 0, .nilsl, .nilsl, .int .i64 0, .int .i64 0, .nilsl, .nilsl], .ovec 3 tI at_, .ovec 46 tIns ins, .ovec 27 tExit xs] [2, 4] <|
   .ite ((!((f && cutExitOk at_ t.2.2.2.2.2.1) && cutExitOk at_ t.2.2.2.2.2.2)))
   (.ret (.tup [.agg [.int .i64 0, .int .i64 0, .int .i64 0, .nilsl, .nilsl, .int .i64 0, .int .i64 0, .nilsl, .nilsl, .int .i64 0, .int .i64 0, .nilsl, .nilsl], .c (.int .i64 3)]) [.cells 29 (Ty.enc tTrace t), .cells 29 [.int .i64 0, .int .i64 0, .int .i64 0, .nilsl, .nilsl, .int .i64 0, .int .i64 0, .nilsl, .nilsl, .int .i64 0, .int .i64 0, .nilsl, .nilsl], .cells 97 [.osl 4 1 at_.length, .bool ((f && cutExitOk at_ t.2.2.2.2.2.1) && cutExitOk at_ t.2.2.2.2.2.2)], .cells 29 [.int .i64 t.1, .int .i64 t.2.1, .int .i64 lo, .osl 5 8 ins.length, .osl 6 4 xs.length, .int .i64 (cutExit at_ t.2.2.2.2.2.1).1, .int .i64 (cutExit at_ t.2.2.2.2.2.1).2.1, .ro tVal (cutExit at_ t.2.2.2.2.2.1).2.2.1, .ro tMake (cutExit at_ t.2.2.2.2.2.1).2.2.2, .int .i64 (cutExit at_ t.2.2.2.2.2.2).1, .int .i64 (cutExit at_ t.2.2.2.2.2.2).2.1, .ro tVal (cutExit at_ t.2.2.2.2.2.2).2.2.1, .ro tMake (cutExit at_ t.2.2.2.2.2.2).2.2.2], .ovec 3 tI at_, .ovec 46 tIns ins, .ovec 27 tExit xs])
   (.ret (.tup [.agg [.int .i64 t.1, .int .i64 t.2.1, .int .i64 lo, .osl 5 8 ins.length, .osl 6 4 xs.length, .int .i64 (cutExit at_ t.2.2.2.2.2.1).1, .int .i64 (cutExit at_ t.2.2.2.2.2.1).2.1, .ro tVal (cutExit at_ t.2.2.2.2.2.1).2.2.1, .ro tMake (cutExit at_ t.2.2.2.2.2.1).2.2.2, .int .i64 (cutExit at_ t.2.2.2.2.2.2).1, .int .i64 (cutExit at_ t.2.2.2.2.2.2).2.1, .ro tVal (cutExit at_ t.2.2.2.2.2.2).2.2.1, .ro tMake (cutExit at_ t.2.2.2.2.2.2).2.2.2], .c (.int .i64 0)]) [.cells 29 (Ty.enc tTrace t), .cells 29 [.int .i64 t.1, .int .i64 t.2.1, .int .i64 lo, .osl 5 8 ins.length, .osl 6 4 xs.length, .int .i64 (cutExit at_ t.2.2.2.2.2.1).1, .int .i64 (cutExit at_ t.2.2.2.2.2.1).2.1, .ro tVal (cutExit at_ t.2.2.2.2.2.1).2.2.1, .ro tMake (cutExit at_ t.2.2.2.2.2.1).2.2.2, .int .i64 (cutExit at_ t.2.2.2.2.2.2).1, .int .i64 (cutExit at_ t.2.2.2.2.2.2).2.1, .ro tVal (cutExit at_ t.2.2.2.2.2.2).2.2.1, .ro tMake (cutExit at_ t.2.2.2.2.2.2).2.2.2], .cells 97 [.osl 4 1 at_.length, .bool ((f && cutExitOk at_ t.2.2.2.2.2.1) && cutExitOk at_ t.2.2.2.2.2.2)], .cells 29 [.int .i64 t.1, .int .i64 t.2.1, .int .i64 lo, .osl 5 8 ins.length, .osl 6 4 xs.length, .int .i64 (cutExit at_ t.2.2.2.2.2.1).1, .int .i64 (cutExit at_ t.2.2.2.2.2.1).2.1, .ro tVal (cutExit at_ t.2.2.2.2.2.1).2.2.1, .ro tMake (cutExit at_ t.2.2.2.2.2.1).2.2.2, .int .i64 (cutExit at_ t.2.2.2.2.2.2).1, .int .i64 (cutExit at_ t.2.2.2.2.2.2).2.1, .ro tVal (cutExit at_ t.2.2.2.2.2.2).2.2.1, .ro tMake (cutExit at_ t.2.2.2.2.2.2).2.2.2], .ovec 3 tI at_, .ovec 46 tIns ins, .ovec 27 tExit xs]))
theorem cut_l1_R_ok (t : ETrace) (to : List Int) (k : Nat) (f : Bool) (lo : Int) (at_ : List Int) (ins : List EIns) (xs : List EExit) : aRound Tryd.prog oc23 Tryd.f22 cut_lv 3000 (lp (bodyOf Tryd.f22) 1) (J2 (.c (.ptr 0 0 0 0) :: .junk :: .c (.ptr 1 0 0 0) :: .junk :: .c (.ptr 2 0 0 0) :: .c (.ptr 3 0 0 0) :: J32 (J32 (J32 (J16 (J4 (.c (.ro tExit t.2.2.2.2.1) :: .c (.int .i64 (t.2.2.2.2.1.length : Int)) :: .c (.int .i64 ((k : Nat) : Int)) :: J16 (J8 (J4 (.junk :: [])))))))))) [.cells 29 (Ty.enc tTrace t), .cells 29 [.int .i64 0, .int .i64 0, .int .i64 0, .nilsl, .nilsl, .int .i64 0, .int .i64 0, .nilsl, .nilsl, .int .i64 0, .int .i64 0, .nilsl, .nilsl], .cells 97 [.osl 4 1 at_.length, .bool f], .cells 29 [.int .i64 t.1, .int .i64 t.2.1, .int .i64 lo, .osl 5 8 ins.length, .osl 6 4 xs.length, .int .i64 0, .int .i64 0, .nilsl, .nilsl, .int .i64 0, .int .i64 0, .nilsl, .nilsl], .ovec 3 tI at_, .ovec 46 tIns ins, .ovec 27 tExit xs] = cut_l1_R t to k f lo at_ ins xs := by kernel_rfl
theorem cut_l1 (t : ETrace) (to : List Int) (k : Nat) (f : Bool) (lo : Int) (at_ : List Int) (ins : List EIns) (xs : List EExit) (hs : traceSm t) (hx : xs.length ≤ k) : Run Tryd.prog 22 (retQ Tryd.prog (.tup [.agg (Ty.enc tTrace ((endF t at_ f lo ins xs k).1)), .c (.int .i64 ((endF t at_ f lo ins xs k).2))])) (lp (bodyOf Tryd.f22) 1) (J2 (.c (.ptr 0 0 0 0) :: .junk :: .c (.ptr 1 0 0 0) :: .junk :: .c (.ptr 2 0 0 0) :: .c (.ptr 3 0 0 0) :: J32 (J32 (J32 (J16 (J4 (.c (.ro tExit t.2.2.2.2.1) :: .c (.int .i64 (t.2.2.2.2.1.length : Int)) :: .c (.int .i64 ((k : Nat) : Int)) :: J16 (J8 (J4 (.junk :: [])))))))))) [.cells 29 (Ty.enc tTrace t), .cells 29 [.int .i64 0, .int .i64 0, .int .i64 0, .nilsl, .nilsl, .int .i64 0, .int .i64 0, .nilsl, .nilsl, .int .i64 0, .int .i64 0, .nilsl, .nilsl], .cells 97 [.osl 4 1 at_.length, .bool f], .cells 29 [.int .i64 t.1, .int .i64 t.2.1, .int .i64 lo, .osl 5 8 ins.length, .osl 6 4 xs.length, .int .i64 0, .int .i64 0, .nilsl, .nilsl, .int .i64 0, .int .i64 0, .nilsl, .nilsl], .ovec 3 tI at_, .ovec 46 tIns ins, .ovec 27 tExit xs] :=
  Run.roundA oc23 cut_lv 3000 Tryd.func22 mixed (cut_l1_R t to k f lo at_ ins xs) (cut_l1_R_ok t to k f lo at_ ins xs) (by
    unfold cut_l1_R
    refine g_iteD (fun h0 => ?_) (fun h0 => ?_)
    · refine g_need (by omega) ?_
      refine g_need (by omega) ?_
      refine g_callH (AFunH.frameB [2, 4] (cexit_fun at_ f (t.2.2.2.2.1.getD k tExit.dflt) (by first | exact hs.2.2.1 | exact hs.2.2.2 | exact hs.2.1.2 _ (getD_mem (α := EExit) (Ty.dflt tExit) (by omega)))) rfl rfl rfl rfl rfl rfl rfl) ?_
      refine g_need (rfl) ?_
      refine g_need (⟨rfl, rfl⟩) ?_
      refine g_need (by first | omega | (constructor <;> omega) | (rw [i64_iff]; omega) | rfl | (have q1 := hs.1; have q2 := hs.2.1.1; (try simp only [List.length_cons, List.length_nil]); first | omega | (rw [i64_iff]; omega) | (constructor <;> omega))) ?_
      refine g_need (by first | omega | (constructor <;> omega) | (rw [i64_iff]; omega) | rfl | (have q1 := hs.1; have q2 := hs.2.1.1; (try simp only [List.length_cons, List.length_nil]); first | omega | (rw [i64_iff]; omega) | (constructor <;> omega))) ?_
      refine g_stop (RunN.keep [0, 1, 2, 3, 4, 5, 9] (F2 (true :: false :: true :: false :: true :: true :: F32 (F32 (F32 (F16 (F4 (true :: true :: true :: F16 (F8 (F4 (false :: [])))))))))) n0 (by decide) rfl rfl ?_)
      have ht := cut_l1 t to (k + 1) (f && cutExitOk at_ (t.2.2.2.2.1.getD k tExit.dflt)) lo at_ ins (xs ++ [(cutExit at_ (t.2.2.2.2.1.getD k tExit.dflt))]) hs (by simp; omega); rw [endF_step (by omega)]; exact ht
    · refine g_callH (AFunH.frameB [2, 4] (cexit_fun at_ f t.2.2.2.2.2.1 (by first | exact hs.2.2.1 | exact hs.2.2.2 | exact hs.2.1.2 _ (getD_mem (α := EExit) (Ty.dflt tExit) (by omega)))) rfl rfl rfl rfl rfl rfl rfl) ?_
      refine g_callH (AFunH.frameB [2, 4] (cexit_fun at_ (f && cutExitOk at_ t.2.2.2.2.2.1) t.2.2.2.2.2.2 (by first | exact hs.2.2.1 | exact hs.2.2.2 | exact hs.2.1.2 _ (getD_mem (α := EExit) (Ty.dflt tExit) (by omega)))) rfl rfl rfl rfl rfl rfl rfl) ?_
      refine g_iteN (fun h1 => ?_) (fun h1 => ?_)
      · refine g_rq ?_
        exact g_rl (⟨⟨⟨rfl, (show (0 : Int) = (endF t at_ f lo ins xs k).1.1 from by first | rw [endF_t (by omega) (by assumption)] | (rw [endF_f (by omega) (by assumption)] <;> rfl))⟩, ⟨rfl, (show (0 : Int) = (endF t at_ f lo ins xs k).1.2.1 from by first | rw [endF_t (by omega) (by assumption)] | (rw [endF_f (by omega) (by assumption)] <;> rfl))⟩, ⟨rfl, (show (0 : Int) = (endF t at_ f lo ins xs k).1.2.2.1 from by first | rw [endF_t (by omega) (by assumption)] | (rw [endF_f (by omega) (by assumption)] <;> rfl))⟩, (show (endF t at_ f lo ins xs k).1.2.2.2.1 = [] from by first | rw [endF_t (by omega) (by assumption)] | (rw [endF_f (by omega) (by assumption)] <;> rfl)), (show (endF t at_ f lo ins xs k).1.2.2.2.2.1 = [] from by first | rw [endF_t (by omega) (by assumption)] | (rw [endF_f (by omega) (by assumption)] <;> rfl)), ⟨rfl, (show (0 : Int) = (endF t at_ f lo ins xs k).1.2.2.2.2.2.1.1 from by first | rw [endF_t (by omega) (by assumption)] | (rw [endF_f (by omega) (by assumption)] <;> rfl))⟩, ⟨rfl, (show (0 : Int) = (endF t at_ f lo ins xs k).1.2.2.2.2.2.1.2.1 from by first | rw [endF_t (by omega) (by assumption)] | (rw [endF_f (by omega) (by assumption)] <;> rfl))⟩, (show (endF t at_ f lo ins xs k).1.2.2.2.2.2.1.2.2.1 = [] from by first | rw [endF_t (by omega) (by assumption)] | (rw [endF_f (by omega) (by assumption)] <;> rfl)), (show (endF t at_ f lo ins xs k).1.2.2.2.2.2.1.2.2.2 = [] from by first | rw [endF_t (by omega) (by assumption)] | (rw [endF_f (by omega) (by assumption)] <;> rfl)), ⟨rfl, (show (0 : Int) = (endF t at_ f lo ins xs k).1.2.2.2.2.2.2.1 from by first | rw [endF_t (by omega) (by assumption)] | (rw [endF_f (by omega) (by assumption)] <;> rfl))⟩, ⟨rfl, (show (0 : Int) = (endF t at_ f lo ins xs k).1.2.2.2.2.2.2.2.1 from by first | rw [endF_t (by omega) (by assumption)] | (rw [endF_f (by omega) (by assumption)] <;> rfl))⟩, (show (endF t at_ f lo ins xs k).1.2.2.2.2.2.2.2.2.1 = [] from by first | rw [endF_t (by omega) (by assumption)] | (rw [endF_f (by omega) (by assumption)] <;> rfl)), (show (endF t at_ f lo ins xs k).1.2.2.2.2.2.2.2.2.2 = [] from by first | rw [endF_t (by omega) (by assumption)] | (rw [endF_f (by omega) (by assumption)] <;> rfl)), trivial⟩, ⟨rfl, (show (3 : Int) = (endF t at_ f lo ins xs k).2 from by first | rw [endF_t (by omega) (by assumption)] | (rw [endF_f (by omega) (by assumption)] <;> rfl))⟩, trivial⟩) rfl
      · refine g_rq ?_
        refine g_need (rfl) ?_
        refine g_need (rfl) ?_
        exact g_rl (⟨⟨⟨rfl, (show (t.1 : Int) = (endF t at_ f lo ins xs k).1.1 from by first | rw [endF_t (by omega) (by assumption)] | (rw [endF_f (by omega) (by assumption)] <;> rfl))⟩, ⟨rfl, (show (t.2.1 : Int) = (endF t at_ f lo ins xs k).1.2.1 from by first | rw [endF_t (by omega) (by assumption)] | (rw [endF_f (by omega) (by assumption)] <;> rfl))⟩, ⟨rfl, (show (lo : Int) = (endF t at_ f lo ins xs k).1.2.2.1 from by first | rw [endF_t (by omega) (by assumption)] | (rw [endF_f (by omega) (by assumption)] <;> rfl))⟩, ⟨rfl, (show (ins) = (endF t at_ f lo ins xs k).1.2.2.2.1 from by first | rw [endF_t (by omega) (by assumption)] | (rw [endF_f (by omega) (by assumption)] <;> rfl))⟩, ⟨rfl, (show (xs) = (endF t at_ f lo ins xs k).1.2.2.2.2.1 from by first | rw [endF_t (by omega) (by assumption)] | (rw [endF_f (by omega) (by assumption)] <;> rfl))⟩, ⟨rfl, (show ((cutExit at_ t.2.2.2.2.2.1).1 : Int) = (endF t at_ f lo ins xs k).1.2.2.2.2.2.1.1 from by first | rw [endF_t (by omega) (by assumption)] | (rw [endF_f (by omega) (by assumption)] <;> rfl))⟩, ⟨rfl, (show ((cutExit at_ t.2.2.2.2.2.1).2.1 : Int) = (endF t at_ f lo ins xs k).1.2.2.2.2.2.1.2.1 from by first | rw [endF_t (by omega) (by assumption)] | (rw [endF_f (by omega) (by assumption)] <;> rfl))⟩, ⟨rfl, (show ((cutExit at_ t.2.2.2.2.2.1).2.2.1) = (endF t at_ f lo ins xs k).1.2.2.2.2.2.1.2.2.1 from by first | rw [endF_t (by omega) (by assumption)] | (rw [endF_f (by omega) (by assumption)] <;> rfl))⟩, ⟨rfl, (show ((cutExit at_ t.2.2.2.2.2.1).2.2.2) = (endF t at_ f lo ins xs k).1.2.2.2.2.2.1.2.2.2 from by first | rw [endF_t (by omega) (by assumption)] | (rw [endF_f (by omega) (by assumption)] <;> rfl))⟩, ⟨rfl, (show ((cutExit at_ t.2.2.2.2.2.2).1 : Int) = (endF t at_ f lo ins xs k).1.2.2.2.2.2.2.1 from by first | rw [endF_t (by omega) (by assumption)] | (rw [endF_f (by omega) (by assumption)] <;> rfl))⟩, ⟨rfl, (show ((cutExit at_ t.2.2.2.2.2.2).2.1 : Int) = (endF t at_ f lo ins xs k).1.2.2.2.2.2.2.2.1 from by first | rw [endF_t (by omega) (by assumption)] | (rw [endF_f (by omega) (by assumption)] <;> rfl))⟩, ⟨rfl, (show ((cutExit at_ t.2.2.2.2.2.2).2.2.1) = (endF t at_ f lo ins xs k).1.2.2.2.2.2.2.2.2.1 from by first | rw [endF_t (by omega) (by assumption)] | (rw [endF_f (by omega) (by assumption)] <;> rfl))⟩, ⟨rfl, (show ((cutExit at_ t.2.2.2.2.2.2).2.2.2) = (endF t at_ f lo ins xs k).1.2.2.2.2.2.2.2.2.2 from by first | rw [endF_t (by omega) (by assumption)] | (rw [endF_f (by omega) (by assumption)] <;> rfl))⟩, trivial⟩, ⟨rfl, (show (0 : Int) = (endF t at_ f lo ins xs k).2 from by first | rw [endF_t (by omega) (by assumption)] | (rw [endF_f (by omega) (by assumption)] <;> rfl))⟩, trivial⟩) rfl
    )
  termination_by t.2.2.2.2.1.length - k
  decreasing_by all_goals omega
theorem cut_r24 (t : ETrace) (to : List Int) (f : Bool) (lo : Int) (at_ : List Int) (ins : List EIns) (hs : traceSm t) : Run Tryd.prog 22 (retQ Tryd.prog (.tup [.agg (Ty.enc tTrace ((cutEnd t at_ f lo ins).1)), .c (.int .i64 ((cutEnd t at_ f lo ins).2))])) (rg (bodyOf Tryd.f22) 24) (J2 (.c (.ptr 0 0 0 0) :: .junk :: .c (.ptr 1 0 0 0) :: .junk :: .c (.ptr 2 0 0 0) :: .c (.ptr 3 0 0 0) :: J32 (J32 (J32 (J32 (J16 (J4 ([])))))))) [.cells 29 (Ty.enc tTrace t), .cells 29 [.int .i64 0, .int .i64 0, .int .i64 0, .nilsl, .nilsl, .int .i64 0, .int .i64 0, .nilsl, .nilsl, .int .i64 0, .int .i64 0, .nilsl, .nilsl], .cells 97 [.osl 4 1 at_.length, .bool f], .cells 29 [.int .i64 t.1, .int .i64 t.2.1, .int .i64 lo, .osl 5 8 ins.length, .nilsl, .int .i64 0, .int .i64 0, .nilsl, .nilsl, .int .i64 0, .int .i64 0, .nilsl, .nilsl], .ovec 3 tI at_, .ovec 46 tIns ins] :=
  Run.roundA oc23 cut_lv 3000 Tryd.func22 mixed (cut_r24_R t to f lo at_ ins) (cut_r24_R_ok t to f lo at_ ins) (by
    unfold cut_r24_R
    refine g_stop (RunN.keep [0, 1, 2, 3, 4, 5, 1006] (F2 (true :: false :: true :: false :: true :: true :: F32 (F32 (F32 (F16 (F4 (true :: true :: true :: F16 (F8 (F4 (false :: [])))))))))) n0 (by decide) rfl rfl ?_)
    refine RunN.less (env' := (J2 (.c (.ptr 0 0 0 0) :: .junk :: .c (.ptr 1 0 0 0) :: .junk :: .c (.ptr 2 0 0 0) :: .c (.ptr 3 0 0 0) :: J32 (J32 (J32 (J16 (J4 (.c (.ro tExit t.2.2.2.2.1) :: .c (.int .i64 (t.2.2.2.2.1.length : Int)) :: .c (.int .i64 ((0 : Nat) : Int)) :: J16 (J8 (J4 (.junk :: []))))))))))) (H' := [.cells 29 (Ty.enc tTrace t), .cells 29 [.int .i64 0, .int .i64 0, .int .i64 0, .nilsl, .nilsl, .int .i64 0, .int .i64 0, .nilsl, .nilsl, .int .i64 0, .int .i64 0, .nilsl, .nilsl], .cells 97 [.osl 4 1 at_.length, .bool f], .cells 29 [.int .i64 t.1, .int .i64 t.2.1, .int .i64 lo, .osl 5 8 ins.length, .osl 6 4 0, .int .i64 0, .int .i64 0, .nilsl, .nilsl, .int .i64 0, .int .i64 0, .nilsl, .nilsl], .ovec 3 tI at_, .ovec 46 tIns ins, .ovec 27 tExit ([])]) (leAVs.same rfl) (⟨leB.refl _, leB.refl _, leB.refl _, ⟨rfl, leC.refl _, leC.refl _, leC.refl _, leC.refl _, rfl, leC.refl _, leC.refl _, leC.refl _, leC.refl _, leC.refl _, leC.refl _, leC.refl _, leC.refl _, trivial⟩, leB.refl _, leB.refl _, rfl, trivial⟩) ?_
    exact cut_l1 t to 0 f lo at_ ins ([]) hs (by simp)
    )
theorem cut_l0 (t : ETrace) (to : List Int) (i : Nat) (f : Bool) (lo : Int) (at_ : List Int) (ins : List EIns) (hs : traceSm t) (hl : to.length = t.2.2.2.1.length) (ha : at_.length = i) (hi : ins.length ≤ i) : Run Tryd.prog 22 (retQ Tryd.prog (.tup [.agg (Ty.enc tTrace ((cutThen t (cutLoop t.2.2.1 i (t.2.2.2.1.drop i) (to.drop i) at_ f lo ins)).1)), .c (.int .i64 ((cutThen t (cutLoop t.2.2.1 i (t.2.2.2.1.drop i) (to.drop i) at_ f lo ins)).2))])) (lp (bodyOf Tryd.f22) 0) (.junk :: .c (.ro tI to) :: .c (.ptr 0 0 0 0) :: .junk :: .c (.ptr 1 0 0 0) :: .junk :: .c (.ptr 2 0 0 0) :: .c (.ptr 3 0 0 0) :: J16 (J4 (.c (.ro tIns t.2.2.2.1) :: .c (.int .i64 (t.2.2.2.1.length : Int)) :: .c (.int .i64 ((i : Nat) : Int)) :: J32 (J32 (J32 (J16 (J8 (J4 (.junk :: []))))))))) [.cells 29 (Ty.enc tTrace t), .cells 29 [.int .i64 0, .int .i64 0, .int .i64 0, .nilsl, .nilsl, .int .i64 0, .int .i64 0, .nilsl, .nilsl, .int .i64 0, .int .i64 0, .nilsl, .nilsl], .cells 97 [.osl 4 1 at_.length, .bool f], .cells 29 [.int .i64 t.1, .int .i64 t.2.1, .int .i64 lo, .osl 5 8 ins.length, .nilsl, .int .i64 0, .int .i64 0, .nilsl, .nilsl, .int .i64 0, .int .i64 0, .nilsl, .nilsl], .ovec 3 tI at_, .ovec 46 tIns ins] :=
  Run.roundA oc23 cut_lv 3000 Tryd.func22 mixed (cut_l0_R t to i f lo at_ ins) (cut_l0_R_ok t to i f lo at_ ins) (by
    unfold cut_l0_R
    refine g_iteD (fun h0 => ?_) (fun h0 => ?_)
    · refine g_need (by omega) ?_
      refine g_need (by omega) ?_
      refine g_iteD (fun h1 => ?_) (fun h1 => ?_)
      · refine g_need (by omega) ?_
        refine g_need (by omega) ?_
        refine g_iteD (fun h2 => ?_) (fun h2 => ?_)
        · refine g_need (rfl) ?_
          refine g_need (⟨rfl, rfl⟩) ?_
          refine g_need (by first | omega | (constructor <;> omega) | (rw [i64_iff]; omega) | rfl | (have q1 := hs.1; have q2 := hs.2.1.1; (try simp only [List.length_cons, List.length_nil]); first | omega | (rw [i64_iff]; omega) | (constructor <;> omega))) ?_
          refine g_callH (AFunH.frameB [2, 8] (cins_fun (at_ ++ [((ins.length : Nat) : Int)]) f (t.2.2.2.1.getD i tIns.dflt)) rfl rfl rfl rfl rfl rfl rfl) ?_
          refine g_need (rfl) ?_
          refine g_need (⟨rfl, rfl⟩) ?_
          refine g_need (by first | omega | (constructor <;> omega) | (rw [i64_iff]; omega) | rfl | (have q1 := hs.1; have q2 := hs.2.1.1; (try simp only [List.length_cons, List.length_nil]); first | omega | (rw [i64_iff]; omega) | (constructor <;> omega))) ?_
          refine g_need (by first | omega | (constructor <;> omega) | (rw [i64_iff]; omega) | rfl | (have q1 := hs.1; have q2 := hs.2.1.1; (try simp only [List.length_cons, List.length_nil]); first | omega | (rw [i64_iff]; omega) | (constructor <;> omega))) ?_
          refine g_stop (RunN.keep [0, 1, 2, 3, 8, 10] (false :: true :: true :: false :: true :: false :: true :: true :: F16 (F4 (true :: true :: true :: F32 (F32 (F32 (F16 (F8 (F4 (false :: []))))))))) n0 (by decide) rfl rfl ?_)
          have ht := cut_l0 t to (i + 1) (f && cutInsOk (at_ ++ [((ins.length : Nat) : Int)]) (t.2.2.2.1.getD i tIns.dflt)) ((ins.length : Nat) : Int) (at_ ++ [((ins.length : Nat) : Int)]) (ins ++ [(cutIns (at_ ++ [((ins.length : Nat) : Int)]) (t.2.2.2.1.getD i tIns.dflt))]) hs hl (by simp; omega) (by first | omega | (simp; omega)); rw [dropCons (α := EIns) (Ty.dflt tIns) (by omega : i < t.2.2.2.1.length), dropCons (α := Int) (Ty.dflt tI) (by omega : i < to.length), cutLoop]; (first | rw [if_pos h2] | rw [if_neg h2, if_pos h3] | rw [if_neg h2, if_neg h3, if_pos h4, if_pos h5]); (first | rw [if_pos h1] | rw [if_neg h1]); exact ht
        · refine g_iteD (fun h3 => ?_) (fun h3 => ?_)
          · refine g_need (rfl) ?_
            refine g_need (⟨rfl, rfl⟩) ?_
            refine g_need (by first | omega | (constructor <;> omega) | (rw [i64_iff]; omega) | rfl | (have q1 := hs.1; have q2 := hs.2.1.1; (try simp only [List.length_cons, List.length_nil]); first | omega | (rw [i64_iff]; omega) | (constructor <;> omega))) ?_
            refine g_need (by first | omega | (constructor <;> omega) | (rw [i64_iff]; omega) | rfl | (have q1 := hs.1; have q2 := hs.2.1.1; (try simp only [List.length_cons, List.length_nil]); first | omega | (rw [i64_iff]; omega) | (constructor <;> omega))) ?_
            refine g_stop (RunN.keep [0, 1, 2, 3, 8, 5] (false :: true :: true :: false :: true :: false :: true :: true :: F16 (F4 (true :: true :: true :: F32 (F32 (F32 (F16 (F8 (F4 (false :: []))))))))) n0 (by decide) rfl rfl ?_)
            have ht := cut_l0 t to (i + 1) f ((ins.length : Nat) : Int) (at_ ++ [(-1)]) ins hs hl (by simp; omega) (by first | omega | (simp; omega)); rw [dropCons (α := EIns) (Ty.dflt tIns) (by omega : i < t.2.2.2.1.length), dropCons (α := Int) (Ty.dflt tI) (by omega : i < to.length), cutLoop]; (first | rw [if_pos h2] | rw [if_neg h2, if_pos h3] | rw [if_neg h2, if_neg h3, if_pos h4, if_pos h5]); (first | rw [if_pos h1] | rw [if_neg h1]); exact ht
          · refine g_iteD (fun h4 => ?_) (fun h4 => ?_)
            · refine g_iteD (fun h5 => ?_) (fun h5 => ?_)
              · refine g_need (by omega) ?_
                refine g_need (by omega) ?_
                refine g_need (rfl) ?_
                refine g_need (⟨rfl, rfl⟩) ?_
                refine g_need (by first | omega | (constructor <;> omega) | (rw [i64_iff]; omega) | rfl | (have q1 := hs.1; have q2 := hs.2.1.1; (try simp only [List.length_cons, List.length_nil]); first | omega | (rw [i64_iff]; omega) | (constructor <;> omega))) ?_
                refine g_need (by first | omega | (constructor <;> omega) | (rw [i64_iff]; omega) | rfl | (have q1 := hs.1; have q2 := hs.2.1.1; (try simp only [List.length_cons, List.length_nil]); first | omega | (rw [i64_iff]; omega) | (constructor <;> omega))) ?_
                refine g_stop (RunN.keep [0, 1, 2, 3, 8, 5] (false :: true :: true :: false :: true :: false :: true :: true :: F16 (F4 (true :: true :: true :: F32 (F32 (F32 (F16 (F8 (F4 (false :: []))))))))) n0 (by decide) rfl rfl ?_)
                have ht := cut_l0 t to (i + 1) f ((ins.length : Nat) : Int) (at_ ++ [(at_.getD (Int.toNat (to.getD i tI.dflt)) tI.dflt)]) ins hs hl (by simp; omega) (by first | omega | (simp; omega)); rw [dropCons (α := EIns) (Ty.dflt tIns) (by omega : i < t.2.2.2.1.length), dropCons (α := Int) (Ty.dflt tI) (by omega : i < to.length), cutLoop]; (first | rw [if_pos h2] | rw [if_neg h2, if_pos h3] | rw [if_neg h2, if_neg h3, if_pos h4, if_pos h5]); (first | rw [if_pos h1] | rw [if_neg h1]); exact ht
              · refine g_rq ?_
                exact g_rl (⟨⟨⟨rfl, (show (0 : Int) = (cutThen t (cutLoop t.2.2.1 i (t.2.2.2.1.drop i) (to.drop i) at_ f lo ins)).1.1 from by rw [dropCons (α := EIns) (Ty.dflt tIns) (by omega : i < t.2.2.2.1.length), dropCons (α := Int) (Ty.dflt tI) (by omega : i < to.length), cutLoop]; first | (rw [if_neg h2, if_neg h3, if_neg h4]; rfl) | (rw [if_neg h2, if_neg h3, if_pos h4, if_neg h5]; rfl))⟩, ⟨rfl, (show (0 : Int) = (cutThen t (cutLoop t.2.2.1 i (t.2.2.2.1.drop i) (to.drop i) at_ f lo ins)).1.2.1 from by rw [dropCons (α := EIns) (Ty.dflt tIns) (by omega : i < t.2.2.2.1.length), dropCons (α := Int) (Ty.dflt tI) (by omega : i < to.length), cutLoop]; first | (rw [if_neg h2, if_neg h3, if_neg h4]; rfl) | (rw [if_neg h2, if_neg h3, if_pos h4, if_neg h5]; rfl))⟩, ⟨rfl, (show (0 : Int) = (cutThen t (cutLoop t.2.2.1 i (t.2.2.2.1.drop i) (to.drop i) at_ f lo ins)).1.2.2.1 from by rw [dropCons (α := EIns) (Ty.dflt tIns) (by omega : i < t.2.2.2.1.length), dropCons (α := Int) (Ty.dflt tI) (by omega : i < to.length), cutLoop]; first | (rw [if_neg h2, if_neg h3, if_neg h4]; rfl) | (rw [if_neg h2, if_neg h3, if_pos h4, if_neg h5]; rfl))⟩, (show (cutThen t (cutLoop t.2.2.1 i (t.2.2.2.1.drop i) (to.drop i) at_ f lo ins)).1.2.2.2.1 = [] from by rw [dropCons (α := EIns) (Ty.dflt tIns) (by omega : i < t.2.2.2.1.length), dropCons (α := Int) (Ty.dflt tI) (by omega : i < to.length), cutLoop]; first | (rw [if_neg h2, if_neg h3, if_neg h4]; rfl) | (rw [if_neg h2, if_neg h3, if_pos h4, if_neg h5]; rfl)), (show (cutThen t (cutLoop t.2.2.1 i (t.2.2.2.1.drop i) (to.drop i) at_ f lo ins)).1.2.2.2.2.1 = [] from by rw [dropCons (α := EIns) (Ty.dflt tIns) (by omega : i < t.2.2.2.1.length), dropCons (α := Int) (Ty.dflt tI) (by omega : i < to.length), cutLoop]; first | (rw [if_neg h2, if_neg h3, if_neg h4]; rfl) | (rw [if_neg h2, if_neg h3, if_pos h4, if_neg h5]; rfl)), ⟨rfl, (show (0 : Int) = (cutThen t (cutLoop t.2.2.1 i (t.2.2.2.1.drop i) (to.drop i) at_ f lo ins)).1.2.2.2.2.2.1.1 from by rw [dropCons (α := EIns) (Ty.dflt tIns) (by omega : i < t.2.2.2.1.length), dropCons (α := Int) (Ty.dflt tI) (by omega : i < to.length), cutLoop]; first | (rw [if_neg h2, if_neg h3, if_neg h4]; rfl) | (rw [if_neg h2, if_neg h3, if_pos h4, if_neg h5]; rfl))⟩, ⟨rfl, (show (0 : Int) = (cutThen t (cutLoop t.2.2.1 i (t.2.2.2.1.drop i) (to.drop i) at_ f lo ins)).1.2.2.2.2.2.1.2.1 from by rw [dropCons (α := EIns) (Ty.dflt tIns) (by omega : i < t.2.2.2.1.length), dropCons (α := Int) (Ty.dflt tI) (by omega : i < to.length), cutLoop]; first | (rw [if_neg h2, if_neg h3, if_neg h4]; rfl) | (rw [if_neg h2, if_neg h3, if_pos h4, if_neg h5]; rfl))⟩, (show (cutThen t (cutLoop t.2.2.1 i (t.2.2.2.1.drop i) (to.drop i) at_ f lo ins)).1.2.2.2.2.2.1.2.2.1 = [] from by rw [dropCons (α := EIns) (Ty.dflt tIns) (by omega : i < t.2.2.2.1.length), dropCons (α := Int) (Ty.dflt tI) (by omega : i < to.length), cutLoop]; first | (rw [if_neg h2, if_neg h3, if_neg h4]; rfl) | (rw [if_neg h2, if_neg h3, if_pos h4, if_neg h5]; rfl)), (show (cutThen t (cutLoop t.2.2.1 i (t.2.2.2.1.drop i) (to.drop i) at_ f lo ins)).1.2.2.2.2.2.1.2.2.2 = [] from by rw [dropCons (α := EIns) (Ty.dflt tIns) (by omega : i < t.2.2.2.1.length), dropCons (α := Int) (Ty.dflt tI) (by omega : i < to.length), cutLoop]; first | (rw [if_neg h2, if_neg h3, if_neg h4]; rfl) | (rw [if_neg h2, if_neg h3, if_pos h4, if_neg h5]; rfl)), ⟨rfl, (show (0 : Int) = (cutThen t (cutLoop t.2.2.1 i (t.2.2.2.1.drop i) (to.drop i) at_ f lo ins)).1.2.2.2.2.2.2.1 from by rw [dropCons (α := EIns) (Ty.dflt tIns) (by omega : i < t.2.2.2.1.length), dropCons (α := Int) (Ty.dflt tI) (by omega : i < to.length), cutLoop]; first | (rw [if_neg h2, if_neg h3, if_neg h4]; rfl) | (rw [if_neg h2, if_neg h3, if_pos h4, if_neg h5]; rfl))⟩, ⟨rfl, (show (0 : Int) = (cutThen t (cutLoop t.2.2.1 i (t.2.2.2.1.drop i) (to.drop i) at_ f lo ins)).1.2.2.2.2.2.2.2.1 from by rw [dropCons (α := EIns) (Ty.dflt tIns) (by omega : i < t.2.2.2.1.length), dropCons (α := Int) (Ty.dflt tI) (by omega : i < to.length), cutLoop]; first | (rw [if_neg h2, if_neg h3, if_neg h4]; rfl) | (rw [if_neg h2, if_neg h3, if_pos h4, if_neg h5]; rfl))⟩, (show (cutThen t (cutLoop t.2.2.1 i (t.2.2.2.1.drop i) (to.drop i) at_ f lo ins)).1.2.2.2.2.2.2.2.2.1 = [] from by rw [dropCons (α := EIns) (Ty.dflt tIns) (by omega : i < t.2.2.2.1.length), dropCons (α := Int) (Ty.dflt tI) (by omega : i < to.length), cutLoop]; first | (rw [if_neg h2, if_neg h3, if_neg h4]; rfl) | (rw [if_neg h2, if_neg h3, if_pos h4, if_neg h5]; rfl)), (show (cutThen t (cutLoop t.2.2.1 i (t.2.2.2.1.drop i) (to.drop i) at_ f lo ins)).1.2.2.2.2.2.2.2.2.2 = [] from by rw [dropCons (α := EIns) (Ty.dflt tIns) (by omega : i < t.2.2.2.1.length), dropCons (α := Int) (Ty.dflt tI) (by omega : i < to.length), cutLoop]; first | (rw [if_neg h2, if_neg h3, if_neg h4]; rfl) | (rw [if_neg h2, if_neg h3, if_pos h4, if_neg h5]; rfl)), trivial⟩, ⟨rfl, (show (3 : Int) = (cutThen t (cutLoop t.2.2.1 i (t.2.2.2.1.drop i) (to.drop i) at_ f lo ins)).2 from by rw [dropCons (α := EIns) (Ty.dflt tIns) (by omega : i < t.2.2.2.1.length), dropCons (α := Int) (Ty.dflt tI) (by omega : i < to.length), cutLoop]; first | (rw [if_neg h2, if_neg h3, if_neg h4]; rfl) | (rw [if_neg h2, if_neg h3, if_pos h4, if_neg h5]; rfl))⟩, trivial⟩) rfl
            · refine g_rq ?_
              exact g_rl (⟨⟨⟨rfl, (show (0 : Int) = (cutThen t (cutLoop t.2.2.1 i (t.2.2.2.1.drop i) (to.drop i) at_ f lo ins)).1.1 from by rw [dropCons (α := EIns) (Ty.dflt tIns) (by omega : i < t.2.2.2.1.length), dropCons (α := Int) (Ty.dflt tI) (by omega : i < to.length), cutLoop]; first | (rw [if_neg h2, if_neg h3, if_neg h4]; rfl) | (rw [if_neg h2, if_neg h3, if_pos h4, if_neg h5]; rfl))⟩, ⟨rfl, (show (0 : Int) = (cutThen t (cutLoop t.2.2.1 i (t.2.2.2.1.drop i) (to.drop i) at_ f lo ins)).1.2.1 from by rw [dropCons (α := EIns) (Ty.dflt tIns) (by omega : i < t.2.2.2.1.length), dropCons (α := Int) (Ty.dflt tI) (by omega : i < to.length), cutLoop]; first | (rw [if_neg h2, if_neg h3, if_neg h4]; rfl) | (rw [if_neg h2, if_neg h3, if_pos h4, if_neg h5]; rfl))⟩, ⟨rfl, (show (0 : Int) = (cutThen t (cutLoop t.2.2.1 i (t.2.2.2.1.drop i) (to.drop i) at_ f lo ins)).1.2.2.1 from by rw [dropCons (α := EIns) (Ty.dflt tIns) (by omega : i < t.2.2.2.1.length), dropCons (α := Int) (Ty.dflt tI) (by omega : i < to.length), cutLoop]; first | (rw [if_neg h2, if_neg h3, if_neg h4]; rfl) | (rw [if_neg h2, if_neg h3, if_pos h4, if_neg h5]; rfl))⟩, (show (cutThen t (cutLoop t.2.2.1 i (t.2.2.2.1.drop i) (to.drop i) at_ f lo ins)).1.2.2.2.1 = [] from by rw [dropCons (α := EIns) (Ty.dflt tIns) (by omega : i < t.2.2.2.1.length), dropCons (α := Int) (Ty.dflt tI) (by omega : i < to.length), cutLoop]; first | (rw [if_neg h2, if_neg h3, if_neg h4]; rfl) | (rw [if_neg h2, if_neg h3, if_pos h4, if_neg h5]; rfl)), (show (cutThen t (cutLoop t.2.2.1 i (t.2.2.2.1.drop i) (to.drop i) at_ f lo ins)).1.2.2.2.2.1 = [] from by rw [dropCons (α := EIns) (Ty.dflt tIns) (by omega : i < t.2.2.2.1.length), dropCons (α := Int) (Ty.dflt tI) (by omega : i < to.length), cutLoop]; first | (rw [if_neg h2, if_neg h3, if_neg h4]; rfl) | (rw [if_neg h2, if_neg h3, if_pos h4, if_neg h5]; rfl)), ⟨rfl, (show (0 : Int) = (cutThen t (cutLoop t.2.2.1 i (t.2.2.2.1.drop i) (to.drop i) at_ f lo ins)).1.2.2.2.2.2.1.1 from by rw [dropCons (α := EIns) (Ty.dflt tIns) (by omega : i < t.2.2.2.1.length), dropCons (α := Int) (Ty.dflt tI) (by omega : i < to.length), cutLoop]; first | (rw [if_neg h2, if_neg h3, if_neg h4]; rfl) | (rw [if_neg h2, if_neg h3, if_pos h4, if_neg h5]; rfl))⟩, ⟨rfl, (show (0 : Int) = (cutThen t (cutLoop t.2.2.1 i (t.2.2.2.1.drop i) (to.drop i) at_ f lo ins)).1.2.2.2.2.2.1.2.1 from by rw [dropCons (α := EIns) (Ty.dflt tIns) (by omega : i < t.2.2.2.1.length), dropCons (α := Int) (Ty.dflt tI) (by omega : i < to.length), cutLoop]; first | (rw [if_neg h2, if_neg h3, if_neg h4]; rfl) | (rw [if_neg h2, if_neg h3, if_pos h4, if_neg h5]; rfl))⟩, (show (cutThen t (cutLoop t.2.2.1 i (t.2.2.2.1.drop i) (to.drop i) at_ f lo ins)).1.2.2.2.2.2.1.2.2.1 = [] from by rw [dropCons (α := EIns) (Ty.dflt tIns) (by omega : i < t.2.2.2.1.length), dropCons (α := Int) (Ty.dflt tI) (by omega : i < to.length), cutLoop]; first | (rw [if_neg h2, if_neg h3, if_neg h4]; rfl) | (rw [if_neg h2, if_neg h3, if_pos h4, if_neg h5]; rfl)), (show (cutThen t (cutLoop t.2.2.1 i (t.2.2.2.1.drop i) (to.drop i) at_ f lo ins)).1.2.2.2.2.2.1.2.2.2 = [] from by rw [dropCons (α := EIns) (Ty.dflt tIns) (by omega : i < t.2.2.2.1.length), dropCons (α := Int) (Ty.dflt tI) (by omega : i < to.length), cutLoop]; first | (rw [if_neg h2, if_neg h3, if_neg h4]; rfl) | (rw [if_neg h2, if_neg h3, if_pos h4, if_neg h5]; rfl)), ⟨rfl, (show (0 : Int) = (cutThen t (cutLoop t.2.2.1 i (t.2.2.2.1.drop i) (to.drop i) at_ f lo ins)).1.2.2.2.2.2.2.1 from by rw [dropCons (α := EIns) (Ty.dflt tIns) (by omega : i < t.2.2.2.1.length), dropCons (α := Int) (Ty.dflt tI) (by omega : i < to.length), cutLoop]; first | (rw [if_neg h2, if_neg h3, if_neg h4]; rfl) | (rw [if_neg h2, if_neg h3, if_pos h4, if_neg h5]; rfl))⟩, ⟨rfl, (show (0 : Int) = (cutThen t (cutLoop t.2.2.1 i (t.2.2.2.1.drop i) (to.drop i) at_ f lo ins)).1.2.2.2.2.2.2.2.1 from by rw [dropCons (α := EIns) (Ty.dflt tIns) (by omega : i < t.2.2.2.1.length), dropCons (α := Int) (Ty.dflt tI) (by omega : i < to.length), cutLoop]; first | (rw [if_neg h2, if_neg h3, if_neg h4]; rfl) | (rw [if_neg h2, if_neg h3, if_pos h4, if_neg h5]; rfl))⟩, (show (cutThen t (cutLoop t.2.2.1 i (t.2.2.2.1.drop i) (to.drop i) at_ f lo ins)).1.2.2.2.2.2.2.2.2.1 = [] from by rw [dropCons (α := EIns) (Ty.dflt tIns) (by omega : i < t.2.2.2.1.length), dropCons (α := Int) (Ty.dflt tI) (by omega : i < to.length), cutLoop]; first | (rw [if_neg h2, if_neg h3, if_neg h4]; rfl) | (rw [if_neg h2, if_neg h3, if_pos h4, if_neg h5]; rfl)), (show (cutThen t (cutLoop t.2.2.1 i (t.2.2.2.1.drop i) (to.drop i) at_ f lo ins)).1.2.2.2.2.2.2.2.2.2 = [] from by rw [dropCons (α := EIns) (Ty.dflt tIns) (by omega : i < t.2.2.2.1.length), dropCons (α := Int) (Ty.dflt tI) (by omega : i < to.length), cutLoop]; first | (rw [if_neg h2, if_neg h3, if_neg h4]; rfl) | (rw [if_neg h2, if_neg h3, if_pos h4, if_neg h5]; rfl)), trivial⟩, ⟨rfl, (show (3 : Int) = (cutThen t (cutLoop t.2.2.1 i (t.2.2.2.1.drop i) (to.drop i) at_ f lo ins)).2 from by rw [dropCons (α := EIns) (Ty.dflt tIns) (by omega : i < t.2.2.2.1.length), dropCons (α := Int) (Ty.dflt tI) (by omega : i < to.length), cutLoop]; first | (rw [if_neg h2, if_neg h3, if_neg h4]; rfl) | (rw [if_neg h2, if_neg h3, if_pos h4, if_neg h5]; rfl))⟩, trivial⟩) rfl
      · refine g_need (by omega) ?_
        refine g_need (by omega) ?_
        refine g_iteD (fun h2 => ?_) (fun h2 => ?_)
        · refine g_need (rfl) ?_
          refine g_need (⟨rfl, rfl⟩) ?_
          refine g_need (by first | omega | (constructor <;> omega) | (rw [i64_iff]; omega) | rfl | (have q1 := hs.1; have q2 := hs.2.1.1; (try simp only [List.length_cons, List.length_nil]); first | omega | (rw [i64_iff]; omega) | (constructor <;> omega))) ?_
          refine g_callH (AFunH.frameB [2, 8] (cins_fun (at_ ++ [((ins.length : Nat) : Int)]) f (t.2.2.2.1.getD i tIns.dflt)) rfl rfl rfl rfl rfl rfl rfl) ?_
          refine g_need (rfl) ?_
          refine g_need (⟨rfl, rfl⟩) ?_
          refine g_need (by first | omega | (constructor <;> omega) | (rw [i64_iff]; omega) | rfl | (have q1 := hs.1; have q2 := hs.2.1.1; (try simp only [List.length_cons, List.length_nil]); first | omega | (rw [i64_iff]; omega) | (constructor <;> omega))) ?_
          refine g_need (by first | omega | (constructor <;> omega) | (rw [i64_iff]; omega) | rfl | (have q1 := hs.1; have q2 := hs.2.1.1; (try simp only [List.length_cons, List.length_nil]); first | omega | (rw [i64_iff]; omega) | (constructor <;> omega))) ?_
          refine g_stop (RunN.keep [0, 1, 2, 3, 8, 10] (false :: true :: true :: false :: true :: false :: true :: true :: F16 (F4 (true :: true :: true :: F32 (F32 (F32 (F16 (F8 (F4 (false :: []))))))))) n0 (by decide) rfl rfl ?_)
          have ht := cut_l0 t to (i + 1) (f && cutInsOk (at_ ++ [((ins.length : Nat) : Int)]) (t.2.2.2.1.getD i tIns.dflt)) lo (at_ ++ [((ins.length : Nat) : Int)]) (ins ++ [(cutIns (at_ ++ [((ins.length : Nat) : Int)]) (t.2.2.2.1.getD i tIns.dflt))]) hs hl (by simp; omega) (by first | omega | (simp; omega)); rw [dropCons (α := EIns) (Ty.dflt tIns) (by omega : i < t.2.2.2.1.length), dropCons (α := Int) (Ty.dflt tI) (by omega : i < to.length), cutLoop]; (first | rw [if_pos h2] | rw [if_neg h2, if_pos h3] | rw [if_neg h2, if_neg h3, if_pos h4, if_pos h5]); (first | rw [if_pos h1] | rw [if_neg h1]); exact ht
        · refine g_iteD (fun h3 => ?_) (fun h3 => ?_)
          · refine g_need (rfl) ?_
            refine g_need (⟨rfl, rfl⟩) ?_
            refine g_need (by first | omega | (constructor <;> omega) | (rw [i64_iff]; omega) | rfl | (have q1 := hs.1; have q2 := hs.2.1.1; (try simp only [List.length_cons, List.length_nil]); first | omega | (rw [i64_iff]; omega) | (constructor <;> omega))) ?_
            refine g_need (by first | omega | (constructor <;> omega) | (rw [i64_iff]; omega) | rfl | (have q1 := hs.1; have q2 := hs.2.1.1; (try simp only [List.length_cons, List.length_nil]); first | omega | (rw [i64_iff]; omega) | (constructor <;> omega))) ?_
            refine g_stop (RunN.keep [0, 1, 2, 3, 8, 5] (false :: true :: true :: false :: true :: false :: true :: true :: F16 (F4 (true :: true :: true :: F32 (F32 (F32 (F16 (F8 (F4 (false :: []))))))))) n0 (by decide) rfl rfl ?_)
            have ht := cut_l0 t to (i + 1) f lo (at_ ++ [(-1)]) ins hs hl (by simp; omega) (by first | omega | (simp; omega)); rw [dropCons (α := EIns) (Ty.dflt tIns) (by omega : i < t.2.2.2.1.length), dropCons (α := Int) (Ty.dflt tI) (by omega : i < to.length), cutLoop]; (first | rw [if_pos h2] | rw [if_neg h2, if_pos h3] | rw [if_neg h2, if_neg h3, if_pos h4, if_pos h5]); (first | rw [if_pos h1] | rw [if_neg h1]); exact ht
          · refine g_iteD (fun h4 => ?_) (fun h4 => ?_)
            · refine g_iteD (fun h5 => ?_) (fun h5 => ?_)
              · refine g_need (by omega) ?_
                refine g_need (by omega) ?_
                refine g_need (rfl) ?_
                refine g_need (⟨rfl, rfl⟩) ?_
                refine g_need (by first | omega | (constructor <;> omega) | (rw [i64_iff]; omega) | rfl | (have q1 := hs.1; have q2 := hs.2.1.1; (try simp only [List.length_cons, List.length_nil]); first | omega | (rw [i64_iff]; omega) | (constructor <;> omega))) ?_
                refine g_need (by first | omega | (constructor <;> omega) | (rw [i64_iff]; omega) | rfl | (have q1 := hs.1; have q2 := hs.2.1.1; (try simp only [List.length_cons, List.length_nil]); first | omega | (rw [i64_iff]; omega) | (constructor <;> omega))) ?_
                refine g_stop (RunN.keep [0, 1, 2, 3, 8, 5] (false :: true :: true :: false :: true :: false :: true :: true :: F16 (F4 (true :: true :: true :: F32 (F32 (F32 (F16 (F8 (F4 (false :: []))))))))) n0 (by decide) rfl rfl ?_)
                have ht := cut_l0 t to (i + 1) f lo (at_ ++ [(at_.getD (Int.toNat (to.getD i tI.dflt)) tI.dflt)]) ins hs hl (by simp; omega) (by first | omega | (simp; omega)); rw [dropCons (α := EIns) (Ty.dflt tIns) (by omega : i < t.2.2.2.1.length), dropCons (α := Int) (Ty.dflt tI) (by omega : i < to.length), cutLoop]; (first | rw [if_pos h2] | rw [if_neg h2, if_pos h3] | rw [if_neg h2, if_neg h3, if_pos h4, if_pos h5]); (first | rw [if_pos h1] | rw [if_neg h1]); exact ht
              · refine g_rq ?_
                exact g_rl (⟨⟨⟨rfl, (show (0 : Int) = (cutThen t (cutLoop t.2.2.1 i (t.2.2.2.1.drop i) (to.drop i) at_ f lo ins)).1.1 from by rw [dropCons (α := EIns) (Ty.dflt tIns) (by omega : i < t.2.2.2.1.length), dropCons (α := Int) (Ty.dflt tI) (by omega : i < to.length), cutLoop]; first | (rw [if_neg h2, if_neg h3, if_neg h4]; rfl) | (rw [if_neg h2, if_neg h3, if_pos h4, if_neg h5]; rfl))⟩, ⟨rfl, (show (0 : Int) = (cutThen t (cutLoop t.2.2.1 i (t.2.2.2.1.drop i) (to.drop i) at_ f lo ins)).1.2.1 from by rw [dropCons (α := EIns) (Ty.dflt tIns) (by omega : i < t.2.2.2.1.length), dropCons (α := Int) (Ty.dflt tI) (by omega : i < to.length), cutLoop]; first | (rw [if_neg h2, if_neg h3, if_neg h4]; rfl) | (rw [if_neg h2, if_neg h3, if_pos h4, if_neg h5]; rfl))⟩, ⟨rfl, (show (0 : Int) = (cutThen t (cutLoop t.2.2.1 i (t.2.2.2.1.drop i) (to.drop i) at_ f lo ins)).1.2.2.1 from by rw [dropCons (α := EIns) (Ty.dflt tIns) (by omega : i < t.2.2.2.1.length), dropCons (α := Int) (Ty.dflt tI) (by omega : i < to.length), cutLoop]; first | (rw [if_neg h2, if_neg h3, if_neg h4]; rfl) | (rw [if_neg h2, if_neg h3, if_pos h4, if_neg h5]; rfl))⟩, (show (cutThen t (cutLoop t.2.2.1 i (t.2.2.2.1.drop i) (to.drop i) at_ f lo ins)).1.2.2.2.1 = [] from by rw [dropCons (α := EIns) (Ty.dflt tIns) (by omega : i < t.2.2.2.1.length), dropCons (α := Int) (Ty.dflt tI) (by omega : i < to.length), cutLoop]; first | (rw [if_neg h2, if_neg h3, if_neg h4]; rfl) | (rw [if_neg h2, if_neg h3, if_pos h4, if_neg h5]; rfl)), (show (cutThen t (cutLoop t.2.2.1 i (t.2.2.2.1.drop i) (to.drop i) at_ f lo ins)).1.2.2.2.2.1 = [] from by rw [dropCons (α := EIns) (Ty.dflt tIns) (by omega : i < t.2.2.2.1.length), dropCons (α := Int) (Ty.dflt tI) (by omega : i < to.length), cutLoop]; first | (rw [if_neg h2, if_neg h3, if_neg h4]; rfl) | (rw [if_neg h2, if_neg h3, if_pos h4, if_neg h5]; rfl)), ⟨rfl, (show (0 : Int) = (cutThen t (cutLoop t.2.2.1 i (t.2.2.2.1.drop i) (to.drop i) at_ f lo ins)).1.2.2.2.2.2.1.1 from by rw [dropCons (α := EIns) (Ty.dflt tIns) (by omega : i < t.2.2.2.1.length), dropCons (α := Int) (Ty.dflt tI) (by omega : i < to.length), cutLoop]; first | (rw [if_neg h2, if_neg h3, if_neg h4]; rfl) | (rw [if_neg h2, if_neg h3, if_pos h4, if_neg h5]; rfl))⟩, ⟨rfl, (show (0 : Int) = (cutThen t (cutLoop t.2.2.1 i (t.2.2.2.1.drop i) (to.drop i) at_ f lo ins)).1.2.2.2.2.2.1.2.1 from by rw [dropCons (α := EIns) (Ty.dflt tIns) (by omega : i < t.2.2.2.1.length), dropCons (α := Int) (Ty.dflt tI) (by omega : i < to.length), cutLoop]; first | (rw [if_neg h2, if_neg h3, if_neg h4]; rfl) | (rw [if_neg h2, if_neg h3, if_pos h4, if_neg h5]; rfl))⟩, (show (cutThen t (cutLoop t.2.2.1 i (t.2.2.2.1.drop i) (to.drop i) at_ f lo ins)).1.2.2.2.2.2.1.2.2.1 = [] from by rw [dropCons (α := EIns) (Ty.dflt tIns) (by omega : i < t.2.2.2.1.length), dropCons (α := Int) (Ty.dflt tI) (by omega : i < to.length), cutLoop]; first | (rw [if_neg h2, if_neg h3, if_neg h4]; rfl) | (rw [if_neg h2, if_neg h3, if_pos h4, if_neg h5]; rfl)), (show (cutThen t (cutLoop t.2.2.1 i (t.2.2.2.1.drop i) (to.drop i) at_ f lo ins)).1.2.2.2.2.2.1.2.2.2 = [] from by rw [dropCons (α := EIns) (Ty.dflt tIns) (by omega : i < t.2.2.2.1.length), dropCons (α := Int) (Ty.dflt tI) (by omega : i < to.length), cutLoop]; first | (rw [if_neg h2, if_neg h3, if_neg h4]; rfl) | (rw [if_neg h2, if_neg h3, if_pos h4, if_neg h5]; rfl)), ⟨rfl, (show (0 : Int) = (cutThen t (cutLoop t.2.2.1 i (t.2.2.2.1.drop i) (to.drop i) at_ f lo ins)).1.2.2.2.2.2.2.1 from by rw [dropCons (α := EIns) (Ty.dflt tIns) (by omega : i < t.2.2.2.1.length), dropCons (α := Int) (Ty.dflt tI) (by omega : i < to.length), cutLoop]; first | (rw [if_neg h2, if_neg h3, if_neg h4]; rfl) | (rw [if_neg h2, if_neg h3, if_pos h4, if_neg h5]; rfl))⟩, ⟨rfl, (show (0 : Int) = (cutThen t (cutLoop t.2.2.1 i (t.2.2.2.1.drop i) (to.drop i) at_ f lo ins)).1.2.2.2.2.2.2.2.1 from by rw [dropCons (α := EIns) (Ty.dflt tIns) (by omega : i < t.2.2.2.1.length), dropCons (α := Int) (Ty.dflt tI) (by omega : i < to.length), cutLoop]; first | (rw [if_neg h2, if_neg h3, if_neg h4]; rfl) | (rw [if_neg h2, if_neg h3, if_pos h4, if_neg h5]; rfl))⟩, (show (cutThen t (cutLoop t.2.2.1 i (t.2.2.2.1.drop i) (to.drop i) at_ f lo ins)).1.2.2.2.2.2.2.2.2.1 = [] from by rw [dropCons (α := EIns) (Ty.dflt tIns) (by omega : i < t.2.2.2.1.length), dropCons (α := Int) (Ty.dflt tI) (by omega : i < to.length), cutLoop]; first | (rw [if_neg h2, if_neg h3, if_neg h4]; rfl) | (rw [if_neg h2, if_neg h3, if_pos h4, if_neg h5]; rfl)), (show (cutThen t (cutLoop t.2.2.1 i (t.2.2.2.1.drop i) (to.drop i) at_ f lo ins)).1.2.2.2.2.2.2.2.2.2 = [] from by rw [dropCons (α := EIns) (Ty.dflt tIns) (by omega : i < t.2.2.2.1.length), dropCons (α := Int) (Ty.dflt tI) (by omega : i < to.length), cutLoop]; first | (rw [if_neg h2, if_neg h3, if_neg h4]; rfl) | (rw [if_neg h2, if_neg h3, if_pos h4, if_neg h5]; rfl)), trivial⟩, ⟨rfl, (show (3 : Int) = (cutThen t (cutLoop t.2.2.1 i (t.2.2.2.1.drop i) (to.drop i) at_ f lo ins)).2 from by rw [dropCons (α := EIns) (Ty.dflt tIns) (by omega : i < t.2.2.2.1.length), dropCons (α := Int) (Ty.dflt tI) (by omega : i < to.length), cutLoop]; first | (rw [if_neg h2, if_neg h3, if_neg h4]; rfl) | (rw [if_neg h2, if_neg h3, if_pos h4, if_neg h5]; rfl))⟩, trivial⟩) rfl
            · refine g_rq ?_
              exact g_rl (⟨⟨⟨rfl, (show (0 : Int) = (cutThen t (cutLoop t.2.2.1 i (t.2.2.2.1.drop i) (to.drop i) at_ f lo ins)).1.1 from by rw [dropCons (α := EIns) (Ty.dflt tIns) (by omega : i < t.2.2.2.1.length), dropCons (α := Int) (Ty.dflt tI) (by omega : i < to.length), cutLoop]; first | (rw [if_neg h2, if_neg h3, if_neg h4]; rfl) | (rw [if_neg h2, if_neg h3, if_pos h4, if_neg h5]; rfl))⟩, ⟨rfl, (show (0 : Int) = (cutThen t (cutLoop t.2.2.1 i (t.2.2.2.1.drop i) (to.drop i) at_ f lo ins)).1.2.1 from by rw [dropCons (α := EIns) (Ty.dflt tIns) (by omega : i < t.2.2.2.1.length), dropCons (α := Int) (Ty.dflt tI) (by omega : i < to.length), cutLoop]; first | (rw [if_neg h2, if_neg h3, if_neg h4]; rfl) | (rw [if_neg h2, if_neg h3, if_pos h4, if_neg h5]; rfl))⟩, ⟨rfl, (show (0 : Int) = (cutThen t (cutLoop t.2.2.1 i (t.2.2.2.1.drop i) (to.drop i) at_ f lo ins)).1.2.2.1 from by rw [dropCons (α := EIns) (Ty.dflt tIns) (by omega : i < t.2.2.2.1.length), dropCons (α := Int) (Ty.dflt tI) (by omega : i < to.length), cutLoop]; first | (rw [if_neg h2, if_neg h3, if_neg h4]; rfl) | (rw [if_neg h2, if_neg h3, if_pos h4, if_neg h5]; rfl))⟩, (show (cutThen t (cutLoop t.2.2.1 i (t.2.2.2.1.drop i) (to.drop i) at_ f lo ins)).1.2.2.2.1 = [] from by rw [dropCons (α := EIns) (Ty.dflt tIns) (by omega : i < t.2.2.2.1.length), dropCons (α := Int) (Ty.dflt tI) (by omega : i < to.length), cutLoop]; first | (rw [if_neg h2, if_neg h3, if_neg h4]; rfl) | (rw [if_neg h2, if_neg h3, if_pos h4, if_neg h5]; rfl)), (show (cutThen t (cutLoop t.2.2.1 i (t.2.2.2.1.drop i) (to.drop i) at_ f lo ins)).1.2.2.2.2.1 = [] from by rw [dropCons (α := EIns) (Ty.dflt tIns) (by omega : i < t.2.2.2.1.length), dropCons (α := Int) (Ty.dflt tI) (by omega : i < to.length), cutLoop]; first | (rw [if_neg h2, if_neg h3, if_neg h4]; rfl) | (rw [if_neg h2, if_neg h3, if_pos h4, if_neg h5]; rfl)), ⟨rfl, (show (0 : Int) = (cutThen t (cutLoop t.2.2.1 i (t.2.2.2.1.drop i) (to.drop i) at_ f lo ins)).1.2.2.2.2.2.1.1 from by rw [dropCons (α := EIns) (Ty.dflt tIns) (by omega : i < t.2.2.2.1.length), dropCons (α := Int) (Ty.dflt tI) (by omega : i < to.length), cutLoop]; first | (rw [if_neg h2, if_neg h3, if_neg h4]; rfl) | (rw [if_neg h2, if_neg h3, if_pos h4, if_neg h5]; rfl))⟩, ⟨rfl, (show (0 : Int) = (cutThen t (cutLoop t.2.2.1 i (t.2.2.2.1.drop i) (to.drop i) at_ f lo ins)).1.2.2.2.2.2.1.2.1 from by rw [dropCons (α := EIns) (Ty.dflt tIns) (by omega : i < t.2.2.2.1.length), dropCons (α := Int) (Ty.dflt tI) (by omega : i < to.length), cutLoop]; first | (rw [if_neg h2, if_neg h3, if_neg h4]; rfl) | (rw [if_neg h2, if_neg h3, if_pos h4, if_neg h5]; rfl))⟩, (show (cutThen t (cutLoop t.2.2.1 i (t.2.2.2.1.drop i) (to.drop i) at_ f lo ins)).1.2.2.2.2.2.1.2.2.1 = [] from by rw [dropCons (α := EIns) (Ty.dflt tIns) (by omega : i < t.2.2.2.1.length), dropCons (α := Int) (Ty.dflt tI) (by omega : i < to.length), cutLoop]; first | (rw [if_neg h2, if_neg h3, if_neg h4]; rfl) | (rw [if_neg h2, if_neg h3, if_pos h4, if_neg h5]; rfl)), (show (cutThen t (cutLoop t.2.2.1 i (t.2.2.2.1.drop i) (to.drop i) at_ f lo ins)).1.2.2.2.2.2.1.2.2.2 = [] from by rw [dropCons (α := EIns) (Ty.dflt tIns) (by omega : i < t.2.2.2.1.length), dropCons (α := Int) (Ty.dflt tI) (by omega : i < to.length), cutLoop]; first | (rw [if_neg h2, if_neg h3, if_neg h4]; rfl) | (rw [if_neg h2, if_neg h3, if_pos h4, if_neg h5]; rfl)), ⟨rfl, (show (0 : Int) = (cutThen t (cutLoop t.2.2.1 i (t.2.2.2.1.drop i) (to.drop i) at_ f lo ins)).1.2.2.2.2.2.2.1 from by rw [dropCons (α := EIns) (Ty.dflt tIns) (by omega : i < t.2.2.2.1.length), dropCons (α := Int) (Ty.dflt tI) (by omega : i < to.length), cutLoop]; first | (rw [if_neg h2, if_neg h3, if_neg h4]; rfl) | (rw [if_neg h2, if_neg h3, if_pos h4, if_neg h5]; rfl))⟩, ⟨rfl, (show (0 : Int) = (cutThen t (cutLoop t.2.2.1 i (t.2.2.2.1.drop i) (to.drop i) at_ f lo ins)).1.2.2.2.2.2.2.2.1 from by rw [dropCons (α := EIns) (Ty.dflt tIns) (by omega : i < t.2.2.2.1.length), dropCons (α := Int) (Ty.dflt tI) (by omega : i < to.length), cutLoop]; first | (rw [if_neg h2, if_neg h3, if_neg h4]; rfl) | (rw [if_neg h2, if_neg h3, if_pos h4, if_neg h5]; rfl))⟩, (show (cutThen t (cutLoop t.2.2.1 i (t.2.2.2.1.drop i) (to.drop i) at_ f lo ins)).1.2.2.2.2.2.2.2.2.1 = [] from by rw [dropCons (α := EIns) (Ty.dflt tIns) (by omega : i < t.2.2.2.1.length), dropCons (α := Int) (Ty.dflt tI) (by omega : i < to.length), cutLoop]; first | (rw [if_neg h2, if_neg h3, if_neg h4]; rfl) | (rw [if_neg h2, if_neg h3, if_pos h4, if_neg h5]; rfl)), (show (cutThen t (cutLoop t.2.2.1 i (t.2.2.2.1.drop i) (to.drop i) at_ f lo ins)).1.2.2.2.2.2.2.2.2.2 = [] from by rw [dropCons (α := EIns) (Ty.dflt tIns) (by omega : i < t.2.2.2.1.length), dropCons (α := Int) (Ty.dflt tI) (by omega : i < to.length), cutLoop]; first | (rw [if_neg h2, if_neg h3, if_neg h4]; rfl) | (rw [if_neg h2, if_neg h3, if_pos h4, if_neg h5]; rfl)), trivial⟩, ⟨rfl, (show (3 : Int) = (cutThen t (cutLoop t.2.2.1 i (t.2.2.2.1.drop i) (to.drop i) at_ f lo ins)).2 from by rw [dropCons (α := EIns) (Ty.dflt tIns) (by omega : i < t.2.2.2.1.length), dropCons (α := Int) (Ty.dflt tI) (by omega : i < to.length), cutLoop]; first | (rw [if_neg h2, if_neg h3, if_neg h4]; rfl) | (rw [if_neg h2, if_neg h3, if_pos h4, if_neg h5]; rfl))⟩, trivial⟩) rfl
    · refine g_iteD (fun h1 => ?_) (fun h1 => ?_)
      · refine g_iteD (fun h2 => ?_) (fun h2 => ?_)
        · refine g_stop (RunN.keep [0, 1, 2, 3, 4, 5] (F2 (true :: false :: true :: false :: true :: true :: F32 (F32 (F32 (F32 (F16 (F4 ([])))))))) n0 (by decide) rfl rfl ?_)
          have ht := cut_r24 t to f 0 at_ ins hs; have e : loopAt t lo ins.length = 0 := (by simp only [loopAt, h0, h1, h2, if_true, if_false]); rw [List.drop_eq_nil_of_le (by omega : t.2.2.2.1.length ≤ i)]; simp only [cutLoop, cutThen, e]; exact ht
        · refine g_stop (RunN.keep [0, 1, 2, 3, 4, 5] (F2 (true :: false :: true :: false :: true :: true :: F32 (F32 (F32 (F32 (F16 (F4 ([])))))))) n0 (by decide) rfl rfl ?_)
          have ht := cut_r24 t to f ((ins.length : Nat) : Int) at_ ins hs; have e : loopAt t lo ins.length = ((ins.length : Nat) : Int) := (by simp only [loopAt, h0, h1, h2, if_true, if_false]); rw [List.drop_eq_nil_of_le (by omega : t.2.2.2.1.length ≤ i)]; simp only [cutLoop, cutThen, e]; exact ht
      · refine g_iteD (fun h2 => ?_) (fun h2 => ?_)
        · refine g_stop (RunN.keep [0, 1, 2, 3, 4, 5] (F2 (true :: false :: true :: false :: true :: true :: F32 (F32 (F32 (F32 (F16 (F4 ([])))))))) n0 (by decide) rfl rfl ?_)
          have ht := cut_r24 t to f 0 at_ ins hs; have e : loopAt t lo ins.length = 0 := (by simp only [loopAt, h0, h1, h2, if_true, if_false]); rw [List.drop_eq_nil_of_le (by omega : t.2.2.2.1.length ≤ i)]; simp only [cutLoop, cutThen, e]; exact ht
        · refine g_stop (RunN.keep [0, 1, 2, 3, 4, 5] (F2 (true :: false :: true :: false :: true :: true :: F32 (F32 (F32 (F32 (F16 (F4 ([])))))))) n0 (by decide) rfl rfl ?_)
          have ht := cut_r24 t to f lo at_ ins hs; have e : loopAt t lo ins.length = lo := (by simp only [loopAt, h0, h1, h2, if_true, if_false]); rw [List.drop_eq_nil_of_le (by omega : t.2.2.2.1.length ≤ i)]; simp only [cutLoop, cutThen, e]; exact ht
    )
  termination_by t.2.2.2.1.length - i
  decreasing_by all_goals omega
theorem cut_fun (t : ETrace) (to : List Int) (hs : traceSm t) : AFun Tryd.prog 22 [.agg (tTrace.enc t), .c (.ro tI to)] (.tup [.agg (Ty.enc tTrace ((cutF t to).1)), .c (.int .i64 ((cutF t to).2))]) :=
  AFun.of oc23 cut_lv 3000 Tryd.func22 mixed rfl (by decide) (Nat.le_of_ble_eq_true rfl) _ (cut_T_ok t to) fun hF => by
    unfold cut_T
    refine g_iteND (fun h0 => ?_) (fun h0 => ?_)
    · refine g_rq ?_
      exact g_rl (⟨⟨⟨rfl, (show (0 : Int) = (cutF t to).1.1 from by rw [cutF, if_neg (by omega)] <;> rfl)⟩, ⟨rfl, (show (0 : Int) = (cutF t to).1.2.1 from by rw [cutF, if_neg (by omega)] <;> rfl)⟩, ⟨rfl, (show (0 : Int) = (cutF t to).1.2.2.1 from by rw [cutF, if_neg (by omega)] <;> rfl)⟩, (show (cutF t to).1.2.2.2.1 = [] from by rw [cutF, if_neg (by omega)] <;> rfl), (show (cutF t to).1.2.2.2.2.1 = [] from by rw [cutF, if_neg (by omega)] <;> rfl), ⟨rfl, (show (0 : Int) = (cutF t to).1.2.2.2.2.2.1.1 from by rw [cutF, if_neg (by omega)] <;> rfl)⟩, ⟨rfl, (show (0 : Int) = (cutF t to).1.2.2.2.2.2.1.2.1 from by rw [cutF, if_neg (by omega)] <;> rfl)⟩, (show (cutF t to).1.2.2.2.2.2.1.2.2.1 = [] from by rw [cutF, if_neg (by omega)] <;> rfl), (show (cutF t to).1.2.2.2.2.2.1.2.2.2 = [] from by rw [cutF, if_neg (by omega)] <;> rfl), ⟨rfl, (show (0 : Int) = (cutF t to).1.2.2.2.2.2.2.1 from by rw [cutF, if_neg (by omega)] <;> rfl)⟩, ⟨rfl, (show (0 : Int) = (cutF t to).1.2.2.2.2.2.2.2.1 from by rw [cutF, if_neg (by omega)] <;> rfl)⟩, (show (cutF t to).1.2.2.2.2.2.2.2.2.1 = [] from by rw [cutF, if_neg (by omega)] <;> rfl), (show (cutF t to).1.2.2.2.2.2.2.2.2.2 = [] from by rw [cutF, if_neg (by omega)] <;> rfl), trivial⟩, ⟨rfl, (show (3 : Int) = (cutF t to).2 from by rw [cutF, if_neg (by omega)] <;> rfl)⟩, trivial⟩) rfl
    · refine g_stop (RunN.keep [0, 1, 2, 3, 1004, 1005] (false :: true :: true :: false :: true :: false :: true :: true :: F16 (F4 (true :: true :: true :: F32 (F32 (F32 (F16 (F8 (F4 (false :: []))))))))) n0 (by decide) rfl rfl ?_)
      refine RunN.less (env' := (.junk :: .c (.ro tI to) :: .c (.ptr 0 0 0 0) :: .junk :: .c (.ptr 1 0 0 0) :: .junk :: .c (.ptr 2 0 0 0) :: .c (.ptr 3 0 0 0) :: J16 (J4 (.c (.ro tIns t.2.2.2.1) :: .c (.int .i64 (t.2.2.2.1.length : Int)) :: .c (.int .i64 ((0 : Nat) : Int)) :: J32 (J32 (J32 (J16 (J8 (J4 (.junk :: [])))))))))) (H' := [.cells 29 (Ty.enc tTrace t), .cells 29 [.int .i64 0, .int .i64 0, .int .i64 0, .nilsl, .nilsl, .int .i64 0, .int .i64 0, .nilsl, .nilsl, .int .i64 0, .int .i64 0, .nilsl, .nilsl], .cells 97 [.osl 4 1 0, .bool true], .cells 29 [.int .i64 t.1, .int .i64 t.2.1, .int .i64 0, .osl 5 8 0, .nilsl, .int .i64 0, .int .i64 0, .nilsl, .nilsl, .int .i64 0, .int .i64 0, .nilsl, .nilsl], .ovec 3 tI ([]), .ovec 46 tIns ([])]) (leAVs.same rfl) (⟨leB.refl _, leB.refl _, ⟨rfl, rfl, rfl, trivial⟩, ⟨rfl, leC.refl _, leC.refl _, leC.refl _, rfl, leC.refl _, leC.refl _, leC.refl _, leC.refl _, leC.refl _, leC.refl _, leC.refl _, leC.refl _, leC.refl _, trivial⟩, rfl, rfl, trivial⟩) ?_
      have ht := cut_l0 t to 0 true 0 ([]) ([]) hs (by omega) rfl (by simp); rw [cutF, if_pos (by omega)]; exact ht

end Go.Proofs.YtefkifdhjabdiaaDoor
namespace Go.Proofs.YtefkifdhjabdiaaDoor
set_option linter.unusedVariables false
set_option linter.unusedSimpArgs false
theorem right_small {p : EProg} {t : ETrace} (h : CheckOk p t) {x : EExit} {a : Int} (hx : rightXF (chkOf p t) x a = true) : exitSm x := by
  obtain ⟨_, _, h1, h2⟩ := rightXF_iff.1 hx
  have q1 := setsF_len h1
  obtain ⟨q2, q3⟩ := makesF_len h2
  have := h.regs
  have hn : (chkOf p t).2.2.2.2.1.length ≤ 300 := h.n
  exact ⟨by omega, by omega, fun m hm => Nat.le_trans (q3 m hm) (by omega)⟩
theorem CheckOk.small {p : EProg} {t : ETrace} (h : CheckOk p t) : traceSm t := by
  refine ⟨Nat.le_trans h.n (by omega), ⟨Nat.le_trans h.m (by omega), fun x hx => right_small h (h.exits x hx)⟩, ?_, right_small h h.back.2⟩
  rcases Int.lt_or_eq_of_le h.loop0 with hl | hl
  · exact right_small h (h.turn1 hl).2
  · have := bareF_iff.1 (h.turn0 hl.symm)
    rw [this]
    exact ⟨by simp, by simp, by simp⟩
end Go.Proofs.YtefkifdhjabdiaaDoor
namespace Go.Proofs.YtefkifdhjabdiaaDoor
set_option maxHeartbeats 4000000
set_option linter.unusedVariables false
set_option linter.unusedSimpArgs false
set_option maxRecDepth 100000
def dP {α β : Type} (a : DecidableEq α) (b : DecidableEq β) : DecidableEq (α × β) := @instDecidableEqProd α β a b
def dI : DecidableEq Int := inferInstance
def dL {α : Type} (a : DecidableEq α) : DecidableEq (List α) := @instDecidableEqList α a
instance decVal : DecidableEq EVal := dP dI dI
instance decIns : DecidableEq EIns := dP dI (dP dI (dP dI (dP dI (dP dI (dP dI decVal)))))
instance decMake : DecidableEq EMake := dP dI (dP dI (dP dI (dL dI)))
instance decExit : DecidableEq EExit := dP dI (dP dI (dP (dL decVal) (dL decMake)))
instance decTrace : DecidableEq ETrace := dP dI (dP dI (dP dI (dP (dL decIns) (dP (dL decExit) (dP decExit decExit)))))
theorem drop_eqD {α : Type} (d : α) {a b : List α} {i : Nat} (hl : a.length = b.length) (hi : i < a.length) : (a.drop i = b.drop i) ↔ (a.getD i d = b.getD i d ∧ a.drop (i + 1) = b.drop (i + 1)) := by
  rw [dropCons (l := a) d hi, dropCons (l := b) d (by omega), List.cons.injEq]
theorem dec_and {p q r : Prop} [Decidable p] [Decidable q] [Decidable r] (h : p ↔ q ∧ r) : decide p = (decide q && decide r) := by
  rw [Bool.eq_iff_iff]; simp [h]
def restFm (n m : Int) : Int := if n.tmod m < 0 then n.tmod m + m else n.tmod m
theorem restFm_ok {n m : Int} (hm : 0 < m) : 0 ≤ restFm n m ∧ restFm n m < m := by
  unfold restFm
  have h1 := Int.tmod_lt_of_pos n hm
  have h2 : -m < n.tmod m := by
    have := Int.lt_tmod_of_pos n hm
    exact this
  split <;> omega
def rest_lv : LV := ⟨([]), []⟩
noncomputable def rest_T (n : Int) (m : Int) : Tree :=
  .need (m ≠ 0) <|
  .need (inR .i64 (Int.tmod n m)) <|
  .ite (decide ((Int.tmod n m) < 0))
  (.need (inR .i64 ((Int.tmod n m) + m)) <|
   .ret (.c (.int .i64 ((Int.tmod n m) + m))) [])
  (.ret (.c (.int .i64 (Int.tmod n m))) [])
theorem rest_T_ok (n : Int) (m : Int) : aRun Tryd.prog oc0 Tryd.f20 rest_lv 3000 [.code (bodyOf Tryd.f20)] ([.c (.int .i64 n), .c (.int .i64 m)] ++ List.replicate (Func.ntmps Tryd.f20 - 2) .junk) [] = rest_T n m := by kernel_rfl
theorem rest_fun (n : Int) (m : Int) (hm : 0 < m) : AFun Tryd.prog 20 [.c (.int .i64 n), .c (.int .i64 m)] (.c (.int .i64 (restFm n m))) :=
  AFun.of oc0 rest_lv 3000 Tryd.func20 mixed rfl (by decide) (Nat.le_of_ble_eq_true rfl) _ (rest_T_ok n m) fun hF => by
    have hb := hF.int.1
    have hb2 := hF.int.2.int.1
    rw [i64_iff] at hb hb2
    have t1 := Int.tmod_lt_of_pos n hm
    have t2 := Int.lt_tmod_of_pos n hm
    unfold rest_T
    refine g_need (by first | omega | (rw [i64_iff]; omega) | (rw [i64_iff]; constructor <;> omega)) ?_
    refine g_need (by first | omega | (rw [i64_iff]; omega) | (rw [i64_iff]; constructor <;> omega)) ?_
    refine g_iteD (fun h0 => ?_) (fun h0 => ?_)
    · refine g_need (by first | omega | (rw [i64_iff]; omega) | (rw [i64_iff]; constructor <;> omega)) ?_
      exact g_reti (by simp only [restFm, h0, if_true, if_false])
    · exact g_reti (by simp only [restFm, h0, if_true, if_false])

def eqIns_lv : LV := ⟨(false :: true :: F8 (F2 (true :: true :: true :: F8 (F2 (false :: []))))), []⟩
noncomputable def eqIns_T (a : List EIns) (b : List EIns) : Tree :=
  .ite ((!(decide ((a.length : Int) = (b.length : Int)))))
  (.ret (.c (.lit false)) [])
  (.stop (lp (bodyOf Tryd.f28) 0) (.junk :: .c (.ro tIns b) :: J8 (J2 (.c (.ro tIns a) :: .c (.int .i64 (a.length : Int)) :: .c (.int .i64 0) :: J8 (J2 (.junk :: []))))) [])
theorem eqIns_T_ok (a : List EIns) (b : List EIns) : aRun Tryd.prog oc0 Tryd.f28 eqIns_lv 3000 [.code (bodyOf Tryd.f28)] ([.c (.ro tIns a), .c (.ro tIns b)] ++ List.replicate (Func.ntmps Tryd.f28 - 2) .junk) [] = eqIns_T a b := by kernel_rfl
noncomputable def eqIns_l0_R (a : List EIns) (b : List EIns) (i : Nat) : Tree :=
  .ite (decide (((i : Nat) : Int) < (a.length : Int)))
  (.need ((0 : Int) ≤ ((i : Nat) : Int) ∧ (((i : Nat) : Int) : Int) < (a.length : Int)) <|
   .need (i < a.length) <|
   .need ((0 : Int) ≤ ((i : Nat) : Int) ∧ (((i : Nat) : Int) : Int) < (b.length : Int)) <|
   .need (i < b.length) <|
   .ite ((!(decide ((a.getD i tIns.dflt).1 = (b.getD i tIns.dflt).1) && (decide ((a.getD i tIns.dflt).2.1 = (b.getD i tIns.dflt).2.1) && (decide ((a.getD i tIns.dflt).2.2.1 = (b.getD i tIns.dflt).2.2.1) && (decide ((a.getD i tIns.dflt).2.2.2.1 = (b.getD i tIns.dflt).2.2.2.1) && (decide ((a.getD i tIns.dflt).2.2.2.2.1 = (b.getD i tIns.dflt).2.2.2.2.1) && (decide ((a.getD i tIns.dflt).2.2.2.2.2.1 = (b.getD i tIns.dflt).2.2.2.2.2.1) && ((decide ((a.getD i tIns.dflt).2.2.2.2.2.2.1 = (b.getD i tIns.dflt).2.2.2.2.2.2.1) && (decide ((a.getD i tIns.dflt).2.2.2.2.2.2.2 = (b.getD i tIns.dflt).2.2.2.2.2.2.2) && true)) && true)))))))))
   (.ret (.c (.lit false)) [.cells 46 [.int .i64 (a.getD i tIns.dflt).1, .int .i64 (a.getD i tIns.dflt).2.1, .int .i64 (a.getD i tIns.dflt).2.2.1, .int .i64 (a.getD i tIns.dflt).2.2.2.1, .int .i64 (a.getD i tIns.dflt).2.2.2.2.1, .int .i64 (a.getD i tIns.dflt).2.2.2.2.2.1, .int .i64 (a.getD i tIns.dflt).2.2.2.2.2.2.1, .int .i64 (a.getD i tIns.dflt).2.2.2.2.2.2.2]])
   (.need (inR .i64 (((i : Nat) : Int) + 1)) <|
    .stop (lp (bodyOf Tryd.f28) 0) (.junk :: .c (.ro tIns b) :: J8 (J2 (.c (.ro tIns a) :: .c (.int .i64 (a.length : Int)) :: .c (.int .i64 (((i : Nat) : Int) + 1)) :: J8 (J2 (.junk :: []))))) [.cells 46 [.int .i64 (a.getD i tIns.dflt).1, .int .i64 (a.getD i tIns.dflt).2.1, .int .i64 (a.getD i tIns.dflt).2.2.1, .int .i64 (a.getD i tIns.dflt).2.2.2.1, .int .i64 (a.getD i tIns.dflt).2.2.2.2.1, .int .i64 (a.getD i tIns.dflt).2.2.2.2.2.1, .int .i64 (a.getD i tIns.dflt).2.2.2.2.2.2.1, .int .i64 (a.getD i tIns.dflt).2.2.2.2.2.2.2]]))
  (.ret (.c (.lit true)) [])
theorem eqIns_l0_R_ok (a : List EIns) (b : List EIns) (i : Nat) : aRound Tryd.prog oc0 Tryd.f28 eqIns_lv 3000 (lp (bodyOf Tryd.f28) 0) (.junk :: .c (.ro tIns b) :: J8 (J2 (.c (.ro tIns a) :: .c (.int .i64 (a.length : Int)) :: .c (.int .i64 ((i : Nat) : Int)) :: J8 (J2 (.junk :: []))))) [] = eqIns_l0_R a b i := by kernel_rfl
theorem eqIns_l0 (a : List EIns) (b : List EIns) (i : Nat) (hl : a.length = b.length) (hb : a.length ≤ 9223372036854775807) : Run Tryd.prog 28 (retQ Tryd.prog (.c (.bool (decide (a.drop i = b.drop i))))) (lp (bodyOf Tryd.f28) 0) (.junk :: .c (.ro tIns b) :: J8 (J2 (.c (.ro tIns a) :: .c (.int .i64 (a.length : Int)) :: .c (.int .i64 ((i : Nat) : Int)) :: J8 (J2 (.junk :: []))))) [] :=
  Run.roundA oc0 eqIns_lv 3000 Tryd.func28 mixed (eqIns_l0_R a b i) (eqIns_l0_R_ok a b i) (by
    unfold eqIns_l0_R
    refine g_iteD (fun h0 => ?_) (fun h0 => ?_)
    · refine g_need (by omega) ?_
      refine g_need (by omega) ?_
      refine g_need (by omega) ?_
      refine g_need (by omega) ?_
      refine g_iteN (fun h1 => ?_) (fun h1 => ?_)
      · exact g_retl (by first | (rw [List.drop_eq_nil_of_le (by omega), List.drop_eq_nil_of_le (by omega)]; rfl) | (symm; rw [decide_eq_false_iff_not, drop_eqD (Ty.dflt tIns) hl (by omega)]; intro q; rw [q.1] at h1; simp at h1))
      · refine g_need (i64_iff.2 (by omega)) ?_
        refine g_stop (RunN.keep [] (false :: true :: F8 (F2 (true :: true :: true :: F8 (F2 (false :: []))))) n0 (by decide) rfl rfl ?_)
        have := eqIns_l0 a b (i + 1) hl hb; have e : decide (a.drop i = b.drop i) = decide (a.drop (i + 1) = b.drop (i + 1)) := (by rw [decide_eq_decide, drop_eqD (Ty.dflt tIns) hl (by omega)]; exact ⟨fun q => q.2, fun q => ⟨(by simp at h1; exact Prod.ext h1.1 (Prod.ext h1.2.1 (Prod.ext h1.2.2.1 (Prod.ext h1.2.2.2.1 (Prod.ext h1.2.2.2.2.1 (Prod.ext h1.2.2.2.2.2.1 (Prod.ext h1.2.2.2.2.2.2.1 h1.2.2.2.2.2.2.2))))))), q⟩⟩); rw [e]; exact this
    · exact g_retl (by first | (rw [List.drop_eq_nil_of_le (by omega), List.drop_eq_nil_of_le (by omega)]; rfl) | (symm; rw [decide_eq_false_iff_not, drop_eqD (Ty.dflt tIns) hl (by omega)]; intro q; rw [q.1] at h1; simp at h1))
    )
  termination_by a.length - i
  decreasing_by all_goals omega
theorem eqIns_fun (a : List EIns) (b : List EIns) : AFun Tryd.prog 28 [.c (.ro tIns a), .c (.ro tIns b)] (.c (.bool (decide (a = b)))) :=
  AFun.of oc0 eqIns_lv 3000 Tryd.func28 mixed rfl (by decide) (Nat.le_of_ble_eq_true rfl) _ (eqIns_T_ok a b) fun hF => by
    unfold eqIns_T
    refine g_iteND (fun h0 => ?_) (fun h0 => ?_)
    · exact g_retl (by symm; rw [decide_eq_false_iff_not]; intro q; exact h0 (by rw [q]))
    · refine g_stop (RunN.keep [] (false :: true :: F8 (F2 (true :: true :: true :: F8 (F2 (false :: []))))) n0 (by decide) rfl rfl ?_)
      have := eqIns_l0 a b 0 (by omega) hF.ro.1.1; exact this

def eqSet_lv : LV := ⟨(false :: true :: F8 (F2 (true :: true :: true :: F8 (F2 (false :: []))))), []⟩
noncomputable def eqSet_T (a : List EVal) (b : List EVal) : Tree :=
  .ite ((!(decide ((a.length : Int) = (b.length : Int)))))
  (.ret (.c (.lit false)) [])
  (.stop (lp (bodyOf Tryd.f59) 0) (.junk :: .c (.ro tVal b) :: J8 (J2 (.c (.ro tVal a) :: .c (.int .i64 (a.length : Int)) :: .c (.int .i64 0) :: J8 (J2 (.junk :: []))))) [])
theorem eqSet_T_ok (a : List EVal) (b : List EVal) : aRun Tryd.prog oc0 Tryd.f59 eqSet_lv 3000 [.code (bodyOf Tryd.f59)] ([.c (.ro tVal a), .c (.ro tVal b)] ++ List.replicate (Func.ntmps Tryd.f59 - 2) .junk) [] = eqSet_T a b := by kernel_rfl
noncomputable def eqSet_l0_R (a : List EVal) (b : List EVal) (i : Nat) : Tree :=
  .ite (decide (((i : Nat) : Int) < (a.length : Int)))
  (.need ((0 : Int) ≤ ((i : Nat) : Int) ∧ (((i : Nat) : Int) : Int) < (a.length : Int)) <|
   .need (i < a.length) <|
   .need ((0 : Int) ≤ ((i : Nat) : Int) ∧ (((i : Nat) : Int) : Int) < (b.length : Int)) <|
   .need (i < b.length) <|
   .ite ((!(decide ((a.getD i tVal.dflt).1 = (b.getD i tVal.dflt).1) && (decide ((a.getD i tVal.dflt).2 = (b.getD i tVal.dflt).2) && true))))
   (.ret (.c (.lit false)) [.cells 116 [.int .i64 (a.getD i tVal.dflt).1, .int .i64 (a.getD i tVal.dflt).2]])
   (.need (inR .i64 (((i : Nat) : Int) + 1)) <|
    .stop (lp (bodyOf Tryd.f59) 0) (.junk :: .c (.ro tVal b) :: J8 (J2 (.c (.ro tVal a) :: .c (.int .i64 (a.length : Int)) :: .c (.int .i64 (((i : Nat) : Int) + 1)) :: J8 (J2 (.junk :: []))))) [.cells 116 [.int .i64 (a.getD i tVal.dflt).1, .int .i64 (a.getD i tVal.dflt).2]]))
  (.ret (.c (.lit true)) [])
theorem eqSet_l0_R_ok (a : List EVal) (b : List EVal) (i : Nat) : aRound Tryd.prog oc0 Tryd.f59 eqSet_lv 3000 (lp (bodyOf Tryd.f59) 0) (.junk :: .c (.ro tVal b) :: J8 (J2 (.c (.ro tVal a) :: .c (.int .i64 (a.length : Int)) :: .c (.int .i64 ((i : Nat) : Int)) :: J8 (J2 (.junk :: []))))) [] = eqSet_l0_R a b i := by kernel_rfl
theorem eqSet_l0 (a : List EVal) (b : List EVal) (i : Nat) (hl : a.length = b.length) (hb : a.length ≤ 9223372036854775807) : Run Tryd.prog 59 (retQ Tryd.prog (.c (.bool (decide (a.drop i = b.drop i))))) (lp (bodyOf Tryd.f59) 0) (.junk :: .c (.ro tVal b) :: J8 (J2 (.c (.ro tVal a) :: .c (.int .i64 (a.length : Int)) :: .c (.int .i64 ((i : Nat) : Int)) :: J8 (J2 (.junk :: []))))) [] :=
  Run.roundA oc0 eqSet_lv 3000 Tryd.func59 mixed (eqSet_l0_R a b i) (eqSet_l0_R_ok a b i) (by
    unfold eqSet_l0_R
    refine g_iteD (fun h0 => ?_) (fun h0 => ?_)
    · refine g_need (by omega) ?_
      refine g_need (by omega) ?_
      refine g_need (by omega) ?_
      refine g_need (by omega) ?_
      refine g_iteN (fun h1 => ?_) (fun h1 => ?_)
      · exact g_retl (by first | (rw [List.drop_eq_nil_of_le (by omega), List.drop_eq_nil_of_le (by omega)]; rfl) | (symm; rw [decide_eq_false_iff_not, drop_eqD (Ty.dflt tVal) hl (by omega)]; intro q; rw [q.1] at h1; simp at h1))
      · refine g_need (i64_iff.2 (by omega)) ?_
        refine g_stop (RunN.keep [] (false :: true :: F8 (F2 (true :: true :: true :: F8 (F2 (false :: []))))) n0 (by decide) rfl rfl ?_)
        have := eqSet_l0 a b (i + 1) hl hb; have e : decide (a.drop i = b.drop i) = decide (a.drop (i + 1) = b.drop (i + 1)) := (by rw [decide_eq_decide, drop_eqD (Ty.dflt tVal) hl (by omega)]; exact ⟨fun q => q.2, fun q => ⟨(by simp at h1; exact Prod.ext h1.1 h1.2), q⟩⟩); rw [e]; exact this
    · exact g_retl (by first | (rw [List.drop_eq_nil_of_le (by omega), List.drop_eq_nil_of_le (by omega)]; rfl) | (symm; rw [decide_eq_false_iff_not, drop_eqD (Ty.dflt tVal) hl (by omega)]; intro q; rw [q.1] at h1; simp at h1))
    )
  termination_by a.length - i
  decreasing_by all_goals omega
theorem eqSet_fun (a : List EVal) (b : List EVal) : AFun Tryd.prog 59 [.c (.ro tVal a), .c (.ro tVal b)] (.c (.bool (decide (a = b)))) :=
  AFun.of oc0 eqSet_lv 3000 Tryd.func59 mixed rfl (by decide) (Nat.le_of_ble_eq_true rfl) _ (eqSet_T_ok a b) fun hF => by
    unfold eqSet_T
    refine g_iteND (fun h0 => ?_) (fun h0 => ?_)
    · exact g_retl (by symm; rw [decide_eq_false_iff_not]; intro q; exact h0 (by rw [q]))
    · refine g_stop (RunN.keep [] (false :: true :: F8 (F2 (true :: true :: true :: F8 (F2 (false :: []))))) n0 (by decide) rfl rfl ?_)
      have := eqSet_l0 a b 0 (by omega) hF.ro.1.1; exact this

noncomputable def oc30 : Orc where
  pure := fun f args => match f, args with
    | 41, [a0, a1] => match dA (.slice tI) a0, dA (.slice tI) a1 with
      | some x0, some x1 => some (.c (.bool (eqIF x0 x1)))
      | _, _ => none
    | _, _ => none
  heap := fun _ _ _ => none
def sameM_lv : LV := ⟨([]), []⟩
noncomputable def sameM_T (a : EMake) (b : EMake) : Tree :=
  .ite (decide (a.1 = b.1))
  (.ite (decide (a.2.1 = b.2.1))
   (.ite (decide (a.2.2.1 = b.2.2.1))
    (.call 41 [.c (.ro tI a.2.2.2), .c (.ro tI b.2.2.2)] false (.c (.bool (eqIF a.2.2.2 b.2.2.2))) <|
     .ret (.c (.bool (eqIF a.2.2.2 b.2.2.2))) [.cells 118 (Ty.enc tMake a), .cells 118 (Ty.enc tMake b)])
    (.ret (.c (.lit false)) [.cells 118 (Ty.enc tMake a), .cells 118 (Ty.enc tMake b)]))
   (.ret (.c (.lit false)) [.cells 118 (Ty.enc tMake a), .cells 118 (Ty.enc tMake b)]))
  (.ret (.c (.lit false)) [.cells 118 (Ty.enc tMake a), .cells 118 (Ty.enc tMake b)])
theorem sameM_T_ok (a : EMake) (b : EMake) : aRun Tryd.prog oc30 Tryd.f60 sameM_lv 3000 [.code (bodyOf Tryd.f60)] ([.agg (tMake.enc a), .agg (tMake.enc b)] ++ List.replicate (Func.ntmps Tryd.f60 - 2) .junk) [] = sameM_T a b := by kernel_rfl
theorem sameM_fun (a : EMake) (b : EMake) : AFun Tryd.prog 60 [.agg (tMake.enc a), .agg (tMake.enc b)] (.c (.bool (decide (a = b)))) :=
  AFun.of oc30 sameM_lv 3000 Tryd.func60 mixed rfl (by decide) (Nat.le_of_ble_eq_true rfl) _ (sameM_T_ok a b) fun hF => by
    unfold sameM_T
    refine g_iteD (fun h0 => ?_) (fun h0 => ?_)
    · refine g_iteD (fun h1 => ?_) (fun h1 => ?_)
      · refine g_iteD (fun h2 => ?_) (fun h2 => ?_)
        · refine g_call (eqI_fun a.2.2.2 b.2.2.2) (fun h => nomatch h) ?_
          exact g_retb (by obtain ⟨a0, a1, a2, a3⟩ := a; obtain ⟨b0, b1, b2, b3⟩ := b; simp_all [eqIF])
        · exact g_retl (by obtain ⟨a0, a1, a2, a3⟩ := a; obtain ⟨b0, b1, b2, b3⟩ := b; simp_all [eqIF])
      · exact g_retl (by obtain ⟨a0, a1, a2, a3⟩ := a; obtain ⟨b0, b1, b2, b3⟩ := b; simp_all [eqIF])
    · exact g_retl (by obtain ⟨a0, a1, a2, a3⟩ := a; obtain ⟨b0, b1, b2, b3⟩ := b; simp_all [eqIF])

noncomputable def oc31 : Orc where
  pure := fun f args => match f, args with
    | 59, [a0, a1] => match dA (.slice tVal) a0, dA (.slice tVal) a1 with
      | some x0, some x1 => some (.c (.bool (decide (x0 = x1))))
      | _, _ => none
    | 60, [a0, a1] => match dA tMake a0, dA tMake a1 with
      | some x0, some x1 => some (.c (.bool (decide (x0 = x1))))
      | _, _ => none
    | _, _ => none
  heap := fun _ _ _ => none
def sameX_lv : LV := ⟨(F2 (true :: true :: F32 (false :: true :: true :: F8 (F4 (F2 (false :: [])))))), []⟩
noncomputable def sameX_T (a : EExit) (b : EExit) : Tree :=
  .ite ((!(decide (a.1 = b.1))))
  (.ret (.c (.lit false)) [.cells 27 (Ty.enc tExit a), .cells 27 (Ty.enc tExit b)])
  (.ite ((!(decide (a.2.1 = b.2.1))))
   (.ret (.c (.lit false)) [.cells 27 (Ty.enc tExit a), .cells 27 (Ty.enc tExit b)])
   (.call 59 [.c (.ro tVal a.2.2.1), .c (.ro tVal b.2.2.1)] false (.c (.bool (decide (a.2.2.1 = b.2.2.1)))) <|
    .ite ((!(decide (a.2.2.1 = b.2.2.1))))
    (.ret (.c (.lit false)) [.cells 27 (Ty.enc tExit a), .cells 27 (Ty.enc tExit b)])
    (.ite ((!(decide ((a.2.2.2.length : Int) = (b.2.2.2.length : Int)))))
     (.ret (.c (.lit false)) [.cells 27 (Ty.enc tExit a), .cells 27 (Ty.enc tExit b)])
     (.stop (lp (bodyOf Tryd.f29) 0) (J2 (.c (.ptr 0 0 0 0) :: .c (.ptr 1 0 0 0) :: J32 (.junk :: .c (.int .i64 (a.2.2.2.length : Int)) :: .c (.int .i64 0) :: J8 (J4 (J2 (.junk :: [])))))) [.cells 27 (Ty.enc tExit a), .cells 27 (Ty.enc tExit b)]))))
theorem sameX_T_ok (a : EExit) (b : EExit) : aRun Tryd.prog oc31 Tryd.f29 sameX_lv 3000 [.code (bodyOf Tryd.f29)] ([.agg (tExit.enc a), .agg (tExit.enc b)] ++ List.replicate (Func.ntmps Tryd.f29 - 2) .junk) [] = sameX_T a b := by kernel_rfl
noncomputable def sameX_l0_R (a : EExit) (b : EExit) (i : Nat) : Tree :=
  .ite (decide (((i : Nat) : Int) < (a.2.2.2.length : Int)))
  (.need ((0 : Int) ≤ ((i : Nat) : Int) ∧ (((i : Nat) : Int) : Int) < (a.2.2.2.length : Int)) <|
   .need (i < a.2.2.2.length) <|
   .need ((0 : Int) ≤ ((i : Nat) : Int) ∧ (((i : Nat) : Int) : Int) < (b.2.2.2.length : Int)) <|
   .need (i < b.2.2.2.length) <|
   .call 60 [.agg [.int .i64 (a.2.2.2.getD i tMake.dflt).1, .int .i64 (a.2.2.2.getD i tMake.dflt).2.1, .int .i64 (a.2.2.2.getD i tMake.dflt).2.2.1, .ro tI (a.2.2.2.getD i tMake.dflt).2.2.2], .agg [.int .i64 (b.2.2.2.getD i tMake.dflt).1, .int .i64 (b.2.2.2.getD i tMake.dflt).2.1, .int .i64 (b.2.2.2.getD i tMake.dflt).2.2.1, .ro tI (b.2.2.2.getD i tMake.dflt).2.2.2]] false (.c (.bool (decide ((a.2.2.2.getD i tMake.dflt) = (b.2.2.2.getD i tMake.dflt))))) <|
   .ite ((!(decide ((a.2.2.2.getD i tMake.dflt) = (b.2.2.2.getD i tMake.dflt)))))
   (.ret (.c (.lit false)) [.cells 27 (Ty.enc tExit a), .cells 27 (Ty.enc tExit b)])
   (.need (inR .i64 (((i : Nat) : Int) + 1)) <|
    .stop (lp (bodyOf Tryd.f29) 0) (J2 (.c (.ptr 0 0 0 0) :: .c (.ptr 1 0 0 0) :: J32 (.junk :: .c (.int .i64 (a.2.2.2.length : Int)) :: .c (.int .i64 (((i : Nat) : Int) + 1)) :: J8 (J4 (J2 (.junk :: [])))))) [.cells 27 (Ty.enc tExit a), .cells 27 (Ty.enc tExit b)]))
  (.ret (.c (.lit true)) [.cells 27 (Ty.enc tExit a), .cells 27 (Ty.enc tExit b)])
theorem sameX_l0_R_ok (a : EExit) (b : EExit) (i : Nat) : aRound Tryd.prog oc31 Tryd.f29 sameX_lv 3000 (lp (bodyOf Tryd.f29) 0) (J2 (.c (.ptr 0 0 0 0) :: .c (.ptr 1 0 0 0) :: J32 (.junk :: .c (.int .i64 (a.2.2.2.length : Int)) :: .c (.int .i64 ((i : Nat) : Int)) :: J8 (J4 (J2 (.junk :: [])))))) [.cells 27 (Ty.enc tExit a), .cells 27 (Ty.enc tExit b)] = sameX_l0_R a b i := by kernel_rfl
theorem sameX_l0 (a : EExit) (b : EExit) (i : Nat) (hl : a.2.2.2.length = b.2.2.2.length) (hb : a.2.2.2.length ≤ 9223372036854775807) : Run Tryd.prog 29 (retQ Tryd.prog (.c (.bool (decide (a.2.2.2.drop i = b.2.2.2.drop i))))) (lp (bodyOf Tryd.f29) 0) (J2 (.c (.ptr 0 0 0 0) :: .c (.ptr 1 0 0 0) :: J32 (.junk :: .c (.int .i64 (a.2.2.2.length : Int)) :: .c (.int .i64 ((i : Nat) : Int)) :: J8 (J4 (J2 (.junk :: [])))))) [.cells 27 (Ty.enc tExit a), .cells 27 (Ty.enc tExit b)] :=
  Run.roundA oc31 sameX_lv 3000 Tryd.func29 mixed (sameX_l0_R a b i) (sameX_l0_R_ok a b i) (by
    unfold sameX_l0_R
    refine g_iteD (fun h0 => ?_) (fun h0 => ?_)
    · refine g_need (by omega) ?_
      refine g_need (by omega) ?_
      refine g_need (by omega) ?_
      refine g_need (by omega) ?_
      refine g_call (sameM_fun (a.2.2.2.getD i tMake.dflt) (b.2.2.2.getD i tMake.dflt)) (fun h => nomatch h) ?_
      refine g_iteND (fun h1 => ?_) (fun h1 => ?_)
      · exact g_retl (by first | (rw [List.drop_eq_nil_of_le (by omega), List.drop_eq_nil_of_le (by omega)]; rfl) | (symm; rw [decide_eq_false_iff_not, drop_eqD (Ty.dflt tMake) hl (by omega)]; intro q; rw [q.1] at h1; simp at h1))
      · refine g_need (i64_iff.2 (by omega)) ?_
        refine g_stop (RunN.keep [0, 1] (F2 (true :: true :: F32 (false :: true :: true :: F8 (F4 (F2 (false :: [])))))) n0 (by decide) rfl rfl ?_)
        have := sameX_l0 a b (i + 1) hl hb; have e : decide (a.2.2.2.drop i = b.2.2.2.drop i) = decide (a.2.2.2.drop (i + 1) = b.2.2.2.drop (i + 1)) := (by rw [decide_eq_decide, drop_eqD (Ty.dflt tMake) hl (by omega)]; exact ⟨fun q => q.2, fun q => ⟨(by first | exact h1 | exact of_decide_eq_true h1), q⟩⟩); rw [e]; exact this
    · exact g_retl (by first | (rw [List.drop_eq_nil_of_le (by omega), List.drop_eq_nil_of_le (by omega)]; rfl) | (symm; rw [decide_eq_false_iff_not, drop_eqD (Ty.dflt tMake) hl (by omega)]; intro q; rw [q.1] at h1; simp at h1))
    )
  termination_by a.2.2.2.length - i
  decreasing_by all_goals omega
theorem sameX_fun (a : EExit) (b : EExit) : AFun Tryd.prog 29 [.agg (tExit.enc a), .agg (tExit.enc b)] (.c (.bool (decide (a = b)))) :=
  AFun.of oc31 sameX_lv 3000 Tryd.func29 mixed rfl (by decide) (Nat.le_of_ble_eq_true rfl) _ (sameX_T_ok a b) fun hF => by
    have hb := hF.agg.1.2.2.2.1
    unfold sameX_T
    refine g_iteND (fun h0 => ?_) (fun h0 => ?_)
    · exact g_retl (by symm; rw [decide_eq_false_iff_not]; rintro rfl; simp_all)
    · refine g_iteND (fun h1 => ?_) (fun h1 => ?_)
      · exact g_retl (by symm; rw [decide_eq_false_iff_not]; rintro rfl; simp_all)
      · refine g_call (eqSet_fun a.2.2.1 b.2.2.1) (fun h => nomatch h) ?_
        refine g_iteND (fun h2 => ?_) (fun h2 => ?_)
        · exact g_retl (by symm; rw [decide_eq_false_iff_not]; rintro rfl; simp_all)
        · refine g_iteND (fun h3 => ?_) (fun h3 => ?_)
          · exact g_retl (by symm; rw [decide_eq_false_iff_not]; rintro rfl; simp_all)
          · refine g_stop (RunN.keep [0, 1] (F2 (true :: true :: F32 (false :: true :: true :: F8 (F4 (F2 (false :: [])))))) n0 (by decide) rfl rfl ?_)
            have := sameX_l0 a b 0 (by omega) hb; rw [List.drop_zero, List.drop_zero] at this; have e : decide (a = b) = decide (a.2.2.2 = b.2.2.2) := (by rw [decide_eq_decide]; exact ⟨fun q => by rw [q], fun q => Prod.ext (by assumption) (Prod.ext (by assumption) (Prod.ext (by assumption) q))⟩); rw [e]; exact this

noncomputable def oc32 : Orc where
  pure := fun f args => match f, args with
    | 28, [a0, a1] => match dA (.slice tIns) a0, dA (.slice tIns) a1 with
      | some x0, some x1 => some (.c (.bool (decide (x0 = x1))))
      | _, _ => none
    | 29, [a0, a1] => match dA tExit a0, dA tExit a1 with
      | some x0, some x1 => some (.c (.bool (decide (x0 = x1))))
      | _, _ => none
    | _, _ => none
  heap := fun _ _ _ => none
def sameT_lv : LV := ⟨(F2 (true :: true :: F32 (F16 (F8 (true :: true :: F8 (F4 (F2 (false :: [])))))))), [3]⟩
noncomputable def sameT_T (a : ETrace) (b : ETrace) : Tree :=
  .ite ((!(decide (a.1 = b.1))))
  (.ret (.c (.lit false)) [.cells 29 (Ty.enc tTrace a), .cells 29 (Ty.enc tTrace b)])
  (.ite ((!(decide (a.2.1 = b.2.1))))
   (.ret (.c (.lit false)) [.cells 29 (Ty.enc tTrace a), .cells 29 (Ty.enc tTrace b)])
   (.ite ((!(decide (a.2.2.1 = b.2.2.1))))
    (.ret (.c (.lit false)) [.cells 29 (Ty.enc tTrace a), .cells 29 (Ty.enc tTrace b)])
    (.call 28 [.c (.ro tIns a.2.2.2.1), .c (.ro tIns b.2.2.2.1)] false (.c (.bool (decide (a.2.2.2.1 = b.2.2.2.1)))) <|
     .ite ((!(decide (a.2.2.2.1 = b.2.2.2.1))))
     (.ret (.c (.lit false)) [.cells 29 (Ty.enc tTrace a), .cells 29 (Ty.enc tTrace b)])
     (.ite ((!(decide ((a.2.2.2.2.1.length : Int) = (b.2.2.2.2.1.length : Int)))))
      (.ret (.c (.lit false)) [.cells 29 (Ty.enc tTrace a), .cells 29 (Ty.enc tTrace b)])
      (.call 29 [.agg [.int .i64 a.2.2.2.2.2.1.1, .int .i64 a.2.2.2.2.2.1.2.1, .ro tVal a.2.2.2.2.2.1.2.2.1, .ro tMake a.2.2.2.2.2.1.2.2.2], .agg [.int .i64 b.2.2.2.2.2.1.1, .int .i64 b.2.2.2.2.2.1.2.1, .ro tVal b.2.2.2.2.2.1.2.2.1, .ro tMake b.2.2.2.2.2.1.2.2.2]] false (.c (.bool (decide (a.2.2.2.2.2.1 = b.2.2.2.2.2.1)))) <|
       .ite ((!(decide (a.2.2.2.2.2.1 = b.2.2.2.2.2.1))))
       (.ret (.c (.lit false)) [.cells 29 (Ty.enc tTrace a), .cells 29 (Ty.enc tTrace b)])
       (.call 29 [.agg [.int .i64 a.2.2.2.2.2.2.1, .int .i64 a.2.2.2.2.2.2.2.1, .ro tVal a.2.2.2.2.2.2.2.2.1, .ro tMake a.2.2.2.2.2.2.2.2.2], .agg [.int .i64 b.2.2.2.2.2.2.1, .int .i64 b.2.2.2.2.2.2.2.1, .ro tVal b.2.2.2.2.2.2.2.2.1, .ro tMake b.2.2.2.2.2.2.2.2.2]] false (.c (.bool (decide (a.2.2.2.2.2.2 = b.2.2.2.2.2.2)))) <|
        .ite ((!(decide (a.2.2.2.2.2.2 = b.2.2.2.2.2.2))))
        (.ret (.c (.lit false)) [.cells 29 (Ty.enc tTrace a), .cells 29 (Ty.enc tTrace b)])
        (.stop (rg (bodyOf Tryd.f16) 3) (J2 (.c (.ptr 0 0 0 0) :: .c (.ptr 1 0 0 0) :: J32 (J32 (J8 (.junk :: []))))) [.cells 29 (Ty.enc tTrace a), .cells 29 (Ty.enc tTrace b)])))))))
theorem sameT_T_ok (a : ETrace) (b : ETrace) : aRun Tryd.prog oc32 Tryd.f16 sameT_lv 3000 [.code (bodyOf Tryd.f16)] ([.agg (tTrace.enc a), .agg (tTrace.enc b)] ++ List.replicate (Func.ntmps Tryd.f16 - 2) .junk) [] = sameT_T a b := by kernel_rfl
noncomputable def sameT_r3_R (a : ETrace) (b : ETrace) : Tree :=
  .stop (lp (bodyOf Tryd.f16) 0) (J2 (.c (.ptr 0 0 0 0) :: .c (.ptr 1 0 0 0) :: J32 (J16 (J8 (.c (.int .i64 (a.2.2.2.2.1.length : Int)) :: .c (.int .i64 0) :: J8 (J4 (J2 (.junk :: [])))))))) [.cells 29 (Ty.enc tTrace a), .cells 29 (Ty.enc tTrace b)]
theorem sameT_r3_R_ok (a : ETrace) (b : ETrace) : aRound Tryd.prog oc32 Tryd.f16 sameT_lv 3000 (rg (bodyOf Tryd.f16) 3) (J2 (.c (.ptr 0 0 0 0) :: .c (.ptr 1 0 0 0) :: J32 (J32 (J8 (.junk :: []))))) [.cells 29 (Ty.enc tTrace a), .cells 29 (Ty.enc tTrace b)] = sameT_r3_R a b := by kernel_rfl
noncomputable def sameT_l0_R (a : ETrace) (b : ETrace) (i : Nat) : Tree :=
  .ite (decide (((i : Nat) : Int) < (a.2.2.2.2.1.length : Int)))
  (.need ((0 : Int) ≤ ((i : Nat) : Int) ∧ (((i : Nat) : Int) : Int) < (a.2.2.2.2.1.length : Int)) <|
   .need (i < a.2.2.2.2.1.length) <|
   .need ((0 : Int) ≤ ((i : Nat) : Int) ∧ (((i : Nat) : Int) : Int) < (b.2.2.2.2.1.length : Int)) <|
   .need (i < b.2.2.2.2.1.length) <|
   .call 29 [.agg [.int .i64 (a.2.2.2.2.1.getD i tExit.dflt).1, .int .i64 (a.2.2.2.2.1.getD i tExit.dflt).2.1, .ro tVal (a.2.2.2.2.1.getD i tExit.dflt).2.2.1, .ro tMake (a.2.2.2.2.1.getD i tExit.dflt).2.2.2], .agg [.int .i64 (b.2.2.2.2.1.getD i tExit.dflt).1, .int .i64 (b.2.2.2.2.1.getD i tExit.dflt).2.1, .ro tVal (b.2.2.2.2.1.getD i tExit.dflt).2.2.1, .ro tMake (b.2.2.2.2.1.getD i tExit.dflt).2.2.2]] false (.c (.bool (decide ((a.2.2.2.2.1.getD i tExit.dflt) = (b.2.2.2.2.1.getD i tExit.dflt))))) <|
   .ite ((!(decide ((a.2.2.2.2.1.getD i tExit.dflt) = (b.2.2.2.2.1.getD i tExit.dflt)))))
   (.ret (.c (.lit false)) [.cells 29 (Ty.enc tTrace a), .cells 29 (Ty.enc tTrace b)])
   (.need (inR .i64 (((i : Nat) : Int) + 1)) <|
    .stop (lp (bodyOf Tryd.f16) 0) (J2 (.c (.ptr 0 0 0 0) :: .c (.ptr 1 0 0 0) :: J32 (J16 (J8 (.c (.int .i64 (a.2.2.2.2.1.length : Int)) :: .c (.int .i64 (((i : Nat) : Int) + 1)) :: J8 (J4 (J2 (.junk :: [])))))))) [.cells 29 (Ty.enc tTrace a), .cells 29 (Ty.enc tTrace b)]))
  (.ret (.c (.lit true)) [.cells 29 (Ty.enc tTrace a), .cells 29 (Ty.enc tTrace b)])
theorem sameT_l0_R_ok (a : ETrace) (b : ETrace) (i : Nat) : aRound Tryd.prog oc32 Tryd.f16 sameT_lv 3000 (lp (bodyOf Tryd.f16) 0) (J2 (.c (.ptr 0 0 0 0) :: .c (.ptr 1 0 0 0) :: J32 (J16 (J8 (.c (.int .i64 (a.2.2.2.2.1.length : Int)) :: .c (.int .i64 ((i : Nat) : Int)) :: J8 (J4 (J2 (.junk :: [])))))))) [.cells 29 (Ty.enc tTrace a), .cells 29 (Ty.enc tTrace b)] = sameT_l0_R a b i := by kernel_rfl
theorem sameT_l0 (a : ETrace) (b : ETrace) (i : Nat) (hl : a.2.2.2.2.1.length = b.2.2.2.2.1.length) (hb : a.2.2.2.2.1.length ≤ 9223372036854775807) : Run Tryd.prog 16 (retQ Tryd.prog (.c (.bool (decide (a.2.2.2.2.1.drop i = b.2.2.2.2.1.drop i))))) (lp (bodyOf Tryd.f16) 0) (J2 (.c (.ptr 0 0 0 0) :: .c (.ptr 1 0 0 0) :: J32 (J16 (J8 (.c (.int .i64 (a.2.2.2.2.1.length : Int)) :: .c (.int .i64 ((i : Nat) : Int)) :: J8 (J4 (J2 (.junk :: [])))))))) [.cells 29 (Ty.enc tTrace a), .cells 29 (Ty.enc tTrace b)] :=
  Run.roundA oc32 sameT_lv 3000 Tryd.func16 mixed (sameT_l0_R a b i) (sameT_l0_R_ok a b i) (by
    unfold sameT_l0_R
    refine g_iteD (fun h0 => ?_) (fun h0 => ?_)
    · refine g_need (by omega) ?_
      refine g_need (by omega) ?_
      refine g_need (by omega) ?_
      refine g_need (by omega) ?_
      refine g_call (sameX_fun (a.2.2.2.2.1.getD i tExit.dflt) (b.2.2.2.2.1.getD i tExit.dflt)) (fun h => nomatch h) ?_
      refine g_iteND (fun h1 => ?_) (fun h1 => ?_)
      · exact g_retl (by first | (rw [List.drop_eq_nil_of_le (by omega), List.drop_eq_nil_of_le (by omega)]; rfl) | (symm; rw [decide_eq_false_iff_not, drop_eqD (Ty.dflt tExit) hl (by omega)]; intro q; rw [q.1] at h1; simp at h1))
      · refine g_need (i64_iff.2 (by omega)) ?_
        refine g_stop (RunN.keep [0, 1] (F2 (true :: true :: F32 (F16 (F8 (true :: true :: F8 (F4 (F2 (false :: [])))))))) n0 (by decide) rfl rfl ?_)
        have := sameT_l0 a b (i + 1) hl hb; have e : decide (a.2.2.2.2.1.drop i = b.2.2.2.2.1.drop i) = decide (a.2.2.2.2.1.drop (i + 1) = b.2.2.2.2.1.drop (i + 1)) := (by rw [decide_eq_decide, drop_eqD (Ty.dflt tExit) hl (by omega)]; exact ⟨fun q => q.2, fun q => ⟨(by first | exact h1 | exact of_decide_eq_true h1), q⟩⟩); rw [e]; exact this
    · exact g_retl (by first | (rw [List.drop_eq_nil_of_le (by omega), List.drop_eq_nil_of_le (by omega)]; rfl) | (symm; rw [decide_eq_false_iff_not, drop_eqD (Ty.dflt tExit) hl (by omega)]; intro q; rw [q.1] at h1; simp at h1))
    )
  termination_by a.2.2.2.2.1.length - i
  decreasing_by all_goals omega
theorem sameT_r3 (a : ETrace) (b : ETrace) (hl : a.2.2.2.2.1.length = b.2.2.2.2.1.length) (hb : a.2.2.2.2.1.length ≤ 9223372036854775807) : Run Tryd.prog 16 (retQ Tryd.prog (.c (.bool (decide (a.2.2.2.2.1 = b.2.2.2.2.1))))) (rg (bodyOf Tryd.f16) 3) (J2 (.c (.ptr 0 0 0 0) :: .c (.ptr 1 0 0 0) :: J32 (J32 (J8 (.junk :: []))))) [.cells 29 (Ty.enc tTrace a), .cells 29 (Ty.enc tTrace b)] :=
  Run.roundA oc32 sameT_lv 3000 Tryd.func16 mixed (sameT_r3_R a b) (sameT_r3_R_ok a b) (by
    unfold sameT_r3_R
    refine g_stop (RunN.keep [0, 1] (F2 (true :: true :: F32 (F16 (F8 (true :: true :: F8 (F4 (F2 (false :: [])))))))) n0 (by decide) rfl rfl ?_)
    have := sameT_l0 a b 0 hl hb; rw [List.drop_zero, List.drop_zero] at this; exact this
    )
theorem sameT_fun (a : ETrace) (b : ETrace) : AFun Tryd.prog 16 [.agg (tTrace.enc a), .agg (tTrace.enc b)] (.c (.bool (decide (a = b)))) :=
  AFun.of oc32 sameT_lv 3000 Tryd.func16 mixed rfl (by decide) (Nat.le_of_ble_eq_true rfl) _ (sameT_T_ok a b) fun hF => by
    have hb := hF.agg.1.2.2.2.2.1.1
    unfold sameT_T
    refine g_iteND (fun h0 => ?_) (fun h0 => ?_)
    · exact g_retl (by symm; rw [decide_eq_false_iff_not]; rintro rfl; simp_all)
    · refine g_iteND (fun h1 => ?_) (fun h1 => ?_)
      · exact g_retl (by symm; rw [decide_eq_false_iff_not]; rintro rfl; simp_all)
      · refine g_iteND (fun h2 => ?_) (fun h2 => ?_)
        · exact g_retl (by symm; rw [decide_eq_false_iff_not]; rintro rfl; simp_all)
        · refine g_call (eqIns_fun a.2.2.2.1 b.2.2.2.1) (fun h => nomatch h) ?_
          refine g_iteND (fun h3 => ?_) (fun h3 => ?_)
          · exact g_retl (by symm; rw [decide_eq_false_iff_not]; rintro rfl; simp_all)
          · refine g_iteND (fun h4 => ?_) (fun h4 => ?_)
            · exact g_retl (by symm; rw [decide_eq_false_iff_not]; rintro rfl; simp_all)
            · refine g_call (sameX_fun a.2.2.2.2.2.1 b.2.2.2.2.2.1) (fun h => nomatch h) ?_
              refine g_iteND (fun h5 => ?_) (fun h5 => ?_)
              · exact g_retl (by symm; rw [decide_eq_false_iff_not]; rintro rfl; simp_all)
              · refine g_call (sameX_fun a.2.2.2.2.2.2 b.2.2.2.2.2.2) (fun h => nomatch h) ?_
                refine g_iteND (fun h6 => ?_) (fun h6 => ?_)
                · exact g_retl (by symm; rw [decide_eq_false_iff_not]; rintro rfl; simp_all)
                · refine g_stop (RunN.keep [0, 1] (F2 (true :: true :: F32 (F32 (F8 (false :: []))))) n0 (by decide) rfl rfl ?_)
                  have := sameT_r3 a b (by omega) hb; have e : decide (a = b) = decide (a.2.2.2.2.1 = b.2.2.2.2.1) := (by rw [decide_eq_decide]; exact ⟨fun q => by rw [q], fun q => Prod.ext (by assumption) (Prod.ext (by assumption) (Prod.ext (by assumption) (Prod.ext (by assumption) (Prod.ext q (Prod.ext (by assumption) (by assumption))))))⟩); rw [e]; exact this

end Go.Proofs.YtefkifdhjabdiaaDoor
namespace Go.Proofs.YtefkifdhjabdiaaDoor
set_option maxHeartbeats 4000000
set_option linter.unusedVariables false
set_option linter.unusedSimpArgs false
set_option maxRecDepth 100000
def iota (n : Nat) : List Int := (List.range n).map fun i : Nat => (i : Int)
theorem iota_succ (n : Nat) : iota n ++ [(n : Int)] = iota (n + 1) := by simp [iota, List.range_succ]
theorem iota_len (n : Nat) : (iota n).length = n := by simp [iota]
theorem iota_at {n : Nat} {v : Int} (h0 : 0 ≤ v) (h : v < n) : (iota n).getD v.toNat tI.dflt = v := by
  have hv : v.toNat < n := by omega
  rw [List.getD_eq_getElem?_getD, iota, List.getElem?_map, List.getElem?_range hv]
  show ((v.toNat : Nat) : Int) = v
  omega
theorem cutOne_iota {n : Nat} {v : Int} (h0 : 0 ≤ v) (h : v < n) : cutOne (iota n) v = (v, true) := by
  unfold cutOne
  rw [if_neg (by omega), if_neg (by rw [iota_len]; omega), if_neg (by rw [iota_at h0 h]; omega), iota_at h0 h]
theorem valueF_lt {c : EChk} {v a : Int} (h : valueF c v a = true) : 0 ≤ v ∧ v < a ∧ v < (c.2.2.2.2.1.length : Int) := by
  unfold valueF at h
  by_cases h1 : 0 ≤ v
  · rw [if_pos h1] at h
    by_cases h2 : v < a
    · rw [if_pos h2] at h
      by_cases h3 : v < (c.2.2.2.2.1.length : Int)
      · exact ⟨h1, h2, h3⟩
      · rw [if_neg h3] at h; cases h
    · rw [if_neg h2] at h; cases h
  · rw [if_neg h1] at h; cases h
theorem cut_sets {c : EChk} {a : Int} : ∀ {l : List EVal} {last : Int}, setsF c a last l = true → l.all (cutSetOk (iota c.2.2.2.2.1.length)) = true ∧ l.map (cutSet (iota c.2.2.2.2.1.length)) = l
  | [], _, _ => ⟨rfl, rfl⟩
  | s :: r, last, h => by
    unfold setsF at h
    split at h
    · cases h
    · split at h
      · cases h
      · split at h
        · cases h
        · rename_i _ _ hv
          obtain ⟨h0, _, h2⟩ := valueF_lt (by simpa using hv)
          obtain ⟨q1, q2⟩ := cut_sets h
          have e := cutOne_iota h0 h2
          refine ⟨?_, ?_⟩
          · rw [List.all_cons, q1, cutSetOk, e]; rfl
          · rw [List.map_cons, q2, cutSet, e]
theorem cut_make {c : EChk} {m : EMake} {a : Int} (h : makeF c m a = true) : cutMakeOk (iota c.2.2.2.2.1.length) m = true ∧ cutMake (iota c.2.2.2.2.1.length) m = m := by
  obtain ⟨h1, _, _, _, _, _, _, h8⟩ := makeF_iff.1 h
  obtain ⟨h0, _, h2⟩ := valueF_lt h1
  have e := cutOne_iota h0 h2
  have hl : ∀ v ∈ m.2.2.2, cutOne (iota c.2.2.2.2.1.length) v = (v, true) := fun v hv => by
    obtain ⟨h0, _, h2⟩ := valueF_lt (List.all_eq_true.1 h8 v hv)
    exact cutOne_iota h0 h2
  refine ⟨?_, ?_⟩
  · unfold cutMakeOk
    rw [e, Bool.true_and, List.all_eq_true]
    exact fun v hv => by rw [hl v hv]
  · unfold cutMake
    rw [e]
    have : (m.2.2.2.map fun v => (cutOne (iota c.2.2.2.2.1.length) v).1) = m.2.2.2 := by
      conv => rhs; rw [← List.map_id m.2.2.2]
      exact List.map_congr_left fun v hv => by rw [hl v hv]; rfl
    rw [this]
theorem cut_makes {c : EChk} {a : Int} : ∀ {l : List EMake} {last : Int}, makesF c a last l = true → l.all (cutMakeOk (iota c.2.2.2.2.1.length)) = true ∧ l.map (cutMake (iota c.2.2.2.2.1.length)) = l
  | [], _, _ => ⟨rfl, rfl⟩
  | m :: r, last, h => by
    unfold makesF at h
    split at h
    · cases h
    · split at h
      · cases h
      · rename_i _ hv
        obtain ⟨e1, e2⟩ := cut_make (c := c) (m := m) (a := a) (by simpa using hv)
        obtain ⟨q1, q2⟩ := cut_makes h
        exact ⟨by rw [List.all_cons, q1, e1]; rfl, by rw [List.map_cons, q2, e2]⟩
theorem cut_exit {c : EChk} {x : EExit} {a : Int} (h : rightXF c x a = true) : cutExitOk (iota c.2.2.2.2.1.length) x = true ∧ cutExit (iota c.2.2.2.2.1.length) x = x := by
  obtain ⟨_, _, h1, h2⟩ := rightXF_iff.1 h
  obtain ⟨a1, a2⟩ := cut_sets h1
  obtain ⟨b1, b2⟩ := cut_makes h2
  exact ⟨by unfold cutExitOk; rw [a1, b1]; rfl, by unfold cutExit; rw [a2, b2]⟩
theorem take_mem3 {a b c : Int} {n : Int} : (0 < n → a ∈ [a, b, c].take n.toNat) ∧ (1 < n → b ∈ [a, b, c].take n.toNat) ∧ (2 < n → c ∈ [a, b, c].take n.toNat) := by
  refine ⟨fun h => ?_, fun h => ?_, fun h => ?_⟩
  · rw [show n.toNat = (n.toNat - 1) + 1 by omega]; simp
  · rw [show n.toNat = (n.toNat - 2) + 1 + 1 by omega]; simp
  · rw [show n.toNat = (n.toNat - 3) + 1 + 1 + 1 by omega]; simp
theorem cut_ins {c : EChk} {x : EIns} {i : Nat} (ht : (ofF x.1).2 = true) (h : formedF c (ofF x.1).1 x (i : Int) = true) : cutInsOk (iota (i + 1)) x = true ∧ cutIns (iota (i + 1)) x = x := by
  unfold formedF at h
  rw [Bool.and_eq_true] at h
  have hv := h.1
  obtain ⟨m0, m1, m2⟩ := take_mem3 (a := x.2.1) (b := x.2.2.1) (c := x.2.2.2.1) (n := (ofF x.1).1.1)
  have key : ∀ v ∈ [x.2.1, x.2.2.1, x.2.2.2.1].take (ofF x.1).1.1.toNat, cutOne (iota (i + 1)) v = (v, true) := fun v hm => by
    obtain ⟨h0, h1, _⟩ := valueF_lt (List.all_eq_true.1 hv v hm)
    exact cutOne_iota h0 (by omega)
  have hst : ∀ (k v : Int), (k < (ofF x.1).1.1 → cutOne (iota (i + 1)) v = (v, true)) → stepOk (iota (i + 1)) (ofF x.1).1.1 k v = true ∧ stepV (iota (i + 1)) (ofF x.1).1.1 k v = v := fun k v hk => by
    unfold stepOk stepV
    by_cases h : k < (ofF x.1).1.1
    · rw [if_pos h, if_pos h, hk h]; exact ⟨rfl, rfl⟩
    · rw [if_neg h, if_neg h]; exact ⟨rfl, rfl⟩
  obtain ⟨a0, b0⟩ := hst 0 x.2.1 fun h => key _ (m0 h)
  obtain ⟨a1, b1⟩ := hst 1 x.2.2.1 fun h => key _ (m1 h)
  obtain ⟨a2, b2⟩ := hst 2 x.2.2.2.1 fun h => key _ (m2 h)
  have hc : cutAsks x.1 = (ofF x.1).1.1 := by unfold cutAsks; rw [if_pos ht]
  exact ⟨by unfold cutInsOk; rw [hc, a0, a1, a2]; rfl, by unfold cutIns; rw [hc, b0, b1, b2]⟩
theorem cut_loop {loop : Int} (l : List EIns) (hx : ∀ (i : Nat) (x : EIns), l[i]? = some x → cutInsOk (iota (i + 1)) x = true ∧ cutIns (iota (i + 1)) x = x) : ∀ (k i : Nat) (lo : Int), l.length - i = k → i ≤ l.length →
    ∃ lo', cutLoop loop i (l.drop i) ((iota l.length).drop i) (iota i) true lo (l.take i) = some (iota l.length, true, lo', l) ∧ ((i : Int) ≤ loop → loop < (l.length : Int) → lo' = loop) ∧ (loop < (i : Int) → lo' = lo)
  | 0, i, lo, hk, hi => by
    obtain rfl : i = l.length := by omega
    rw [List.drop_eq_nil_of_le (Nat.le_refl _), List.take_of_length_le (Nat.le_refl _)]
    exact ⟨lo, rfl, fun h1 h2 => by omega, fun _ => rfl⟩
  | k + 1, i, lo, hk, hi => by
    have hlt : i < l.length := by omega
    have hlt2 : i < (iota l.length).length := by rw [iota_len]; exact hlt
    have ex : l[i]? = some (l.getD i tIns.dflt) := by rw [List.getD_eq_getElem?_getD, List.getElem?_eq_getElem hlt]; rfl
    obtain ⟨q1, q2⟩ := hx i _ ex
    have e1 : (iota l.length).getD i tI.dflt = (i : Int) := by
      have := iota_at (n := l.length) (v := (i : Int)) (by omega) (by omega)
      rwa [Int.toNat_natCast] at this
    have et : l.take i ++ [l.getD i tIns.dflt] = l.take (i + 1) := by rw [List.take_add_one, ex]; rfl
    have el : ((l.take i).length : Int) = (i : Int) := by rw [List.length_take, Nat.min_eq_left hi]
    obtain ⟨lo', r1, r2, r3⟩ := cut_loop (loop := loop) l hx k (i + 1) (if (i : Int) = loop then (i : Int) else lo) (by omega) (by omega)
    refine ⟨lo', ?_, fun h1 h2 => ?_, fun h1 => ?_⟩
    · rw [dropCons (α := EIns) (Ty.dflt tIns) hlt, dropCons (α := Int) (Ty.dflt tI) hlt2, cutLoop, if_pos e1, el, iota_succ, q1, q2, et]
      exact r1
    · by_cases h : (i : Int) = loop
      · have := r3 (by omega)
        rw [if_pos h] at this
        omega
      · exact r2 (by omega) h2
    · have := r3 (by omega)
      rw [if_neg (by omega)] at this
      exact this
theorem cut_all {p : EProg} {t : ETrace} (h : CheckOk p t) : cutF t (iota t.2.2.2.1.length) = (t, 0) := by
  have hx : ∀ (i : Nat) (x : EIns), t.2.2.2.1[i]? = some x → cutInsOk (iota (i + 1)) x = true ∧ cutIns (iota (i + 1)) x = x := fun i x hi => by
    obtain ⟨h1, h2⟩ := h.ins i x hi
    exact cut_ins h1 h2
  obtain ⟨lo', r1, r2, _⟩ := cut_loop (loop := t.2.2.1) t.2.2.2.1 hx _ 0 0 rfl (Nat.zero_le _)
  have hl : loopAt t lo' t.2.2.2.1.length = t.2.2.1 := by
    have g0 := h.loop0
    have g1 := h.loop1
    unfold loopAt
    by_cases h1 : t.2.2.1 ≤ 0
    · rw [if_pos h1]; omega
    · rw [if_neg h1]
      by_cases h2 : (t.2.2.2.1.length : Int) ≤ t.2.2.1
      · rw [if_pos h2]; omega
      · rw [if_neg h2]; exact r2 (by omega) (by omega)
  have hr1 : cutLoop t.2.2.1 0 t.2.2.2.1 (iota t.2.2.2.1.length) [] true 0 [] = some (iota t.2.2.2.1.length, true, lo', t.2.2.2.1) := r1
  have hex : t.2.2.2.2.1.all (cutExitOk (iota t.2.2.2.1.length)) = true ∧ t.2.2.2.2.1.map (cutExit (iota t.2.2.2.1.length)) = t.2.2.2.2.1 := by
    refine ⟨List.all_eq_true.2 fun x hx => (cut_exit (h.exits x hx)).1, ?_⟩
    conv => rhs; rw [← List.map_id t.2.2.2.2.1]
    exact List.map_congr_left fun x hx => (cut_exit (h.exits x hx)).2
  have htu : cutExitOk (iota t.2.2.2.1.length) t.2.2.2.2.2.1 = true ∧ cutExit (iota t.2.2.2.1.length) t.2.2.2.2.2.1 = t.2.2.2.2.2.1 := by
    rcases Int.lt_or_eq_of_le h.loop0 with hl | hl
    · exact cut_exit (h.turn1 hl).2
    · rw [bareF_iff.1 (h.turn0 hl.symm)]; exact ⟨rfl, rfl⟩
  have hba : cutExitOk (iota t.2.2.2.1.length) t.2.2.2.2.2.2 = true ∧ cutExit (iota t.2.2.2.1.length) t.2.2.2.2.2.2 = t.2.2.2.2.2.2 := cut_exit h.back.2
  unfold cutF
  rw [if_pos (iota_len _), hr1]
  show cutEnd t (iota t.2.2.2.1.length) true (loopAt t lo' t.2.2.2.1.length) t.2.2.2.1 = (t, 0)
  rw [hl]
  unfold cutEnd endF
  rw [List.drop_zero, hex.1, htu.1, hba.1, hex.2, htu.2, hba.2, List.nil_append]
  rfl
theorem cutLoop_len {loop : Int} : ∀ {xs : List EIns} {i : Nat} {ns at_ : List Int} {f : Bool} {lo : Int} {ins : List EIns} {r : List Int × Bool × Int × List EIns}, cutLoop loop i xs ns at_ f lo ins = some r → r.2.2.2.length ≤ ins.length + xs.length
  | [], i, ns, at_, f, lo, ins, r, h => by
    unfold cutLoop at h
    injection h with h
    rw [← h]
    exact Nat.le_add_right _ _
  | x :: xs, i, [], at_, f, lo, ins, r, h => by
    unfold cutLoop at h
    injection h with h
    rw [← h]
    exact Nat.le_add_right _ _
  | x :: xs, i, n :: ns, at_, f, lo, ins, r, h => by
    rw [cutLoop] at h
    rw [List.length_cons]
    split at h
    · have := cutLoop_len h
      rw [List.length_append, List.length_singleton] at this
      omega
    · split at h
      · have := cutLoop_len h; omega
      · split at h
        · split at h
          · have := cutLoop_len h; omega
          · cases h
        · cases h
theorem cut_any (t : ETrace) (to : List Int) : ((cutF t to).2 = 0 ∧ (cutF t to).1.2.2.2.1.length ≤ t.2.2.2.1.length) ∨ ((cutF t to).2 = 3 ∧ (cutF t to).1.2.2.2.1.length = 0) := by
  unfold cutF
  split
  · cases h : cutLoop t.2.2.1 0 t.2.2.2.1 to [] true 0 [] with
    | none => exact .inr ⟨rfl, rfl⟩
    | some r =>
      have hl := cutLoop_len h
      unfold cutThen cutEnd endF
      simp only
      split
      · exact .inl ⟨rfl, by simpa using hl⟩
      · exact .inr ⟨rfl, rfl⟩
  · exact .inr ⟨rfl, rfl⟩
theorem cutNone_all {p : EProg} {t : ETrace} {i : Nat} {l : List Int} (hc : CheckOk p t) (h0 : ¬ ((i : Int) < (t.2.2.2.1.length : Int))) (hi : i ≤ t.2.2.2.1.length) (ha : l = iota i) : cutF t l = (t, 0) := by
  obtain rfl : i = t.2.2.2.1.length := by omega
  rw [ha]
  exact cut_all hc
noncomputable def oc60 : Orc where
  pure := fun f args => match f, args with
    | 15, [] => some (.c (.bool (true)))
    | 16, [a0, a1] => match dA tTrace a0, dA tTrace a1 with
      | some x0, some x1 => some (.c (.bool (decide (x0 = x1))))
      | _, _ => none
    | 17, [a0, a1] => match dA tProg a0, dA tTrace a1 with
      | some x0, some x1 => some (.c (.int .i64 (checkF x0 x1)))
      | _, _ => none
    | 22, [a0, a1] => match dA tTrace a0, dA (.slice tI) a1 with
      | some x0, some x1 => some (.tup [.agg (Ty.enc tTrace ((cutF x0 x1).1)), .c (.int .i64 ((cutF x0 x1).2))])
      | _, _ => none
    | _, _ => none
  heap := fun _ _ _ => none
def cutNone_lv : LV := ⟨(F2 (true :: false :: true :: F2 (true :: F8 (F4 (true :: true :: F32 (F16 (F2 (false :: [])))))))), []⟩
noncomputable def cutNone_T (p : EProg) (t : ETrace) (to : List Int) : Tree :=
  .call 17 [.agg (Ty.enc tProg p), .agg (Ty.enc tTrace t)] false (.c (.int .i64 (checkF p t))) <|
  .ite ((!(decide (checkF p t = 0))))
  (.call 15 [] false (.c (.bool true)) <|
   .ret (.c (.bool true)) [.cells 39 (Ty.enc tProg p), .cells 29 (Ty.enc tTrace t)])
  (.stop (lp (bodyOf Tryd.f6) 0) (J2 (.c (.ro tI to) :: .junk :: .c (.ptr 1 0 0 0) :: J2 (.c (.nilsl) :: J8 (J4 (.c (.int .i64 (t.2.2.2.1.length : Int)) :: .c (.int .i64 0) :: J32 (J16 (J2 (.junk :: [])))))))) [.cells 39 (Ty.enc tProg p), .cells 29 (Ty.enc tTrace t)])
theorem cutNone_T_ok (p : EProg) (t : ETrace) (to : List Int) : aRun Tryd.prog oc60 Tryd.f6 cutNone_lv 3000 [.code (bodyOf Tryd.f6)] ([.agg (tProg.enc p), .agg (tTrace.enc t), .c (.ro tI to)] ++ List.replicate (Func.ntmps Tryd.f6 - 3) .junk) [] = cutNone_T p t to := by kernel_rfl
noncomputable def cutNone_l0_R (p : EProg) (t : ETrace) (to : List Int) (i : Nat) (p0 : List Int) : Tree :=
  .ite (decide (((i : Nat) : Int) < (t.2.2.2.1.length : Int)))
  (.need (p0.length = p0.length) <|
   .need (0 = 0 ∧ 1 = ([((i : Nat) : Int)]).length) <|
   .need ((p0.length + ([((i : Nat) : Int)]).length) * 8 ≤ 140737488355328) <|
   .need (inR .i64 (((i : Nat) : Int) + 1)) <|
   .stop (lp (bodyOf Tryd.f6) 0) (J2 (.c (.ro tI to) :: .junk :: .c (.ptr 0 0 0 0) :: J2 (.c (.osl 3 1 (p0 ++ [((i : Nat) : Int)]).length) :: J8 (J4 (.c (.int .i64 (t.2.2.2.1.length : Int)) :: .c (.int .i64 (((i : Nat) : Int) + 1)) :: J32 (J16 (J2 (.junk :: [])))))))) [.cells 29 (Ty.enc tTrace t), .dead, .vec 3 tI ([((i : Nat) : Int)]), .ovec 3 tI (p0 ++ [((i : Nat) : Int)])])
  (.need (p0.length = p0.length) <|
   .call 22 [.agg (Ty.enc tTrace t), .c (.ro tI p0)] false (.tup [.agg [.int .i64 (cutF t p0).1.1, .int .i64 (cutF t p0).1.2.1, .int .i64 (cutF t p0).1.2.2.1, .ro tIns (cutF t p0).1.2.2.2.1, .ro tExit (cutF t p0).1.2.2.2.2.1, .int .i64 (cutF t p0).1.2.2.2.2.2.1.1, .int .i64 (cutF t p0).1.2.2.2.2.2.1.2.1, .ro tVal (cutF t p0).1.2.2.2.2.2.1.2.2.1, .ro tMake (cutF t p0).1.2.2.2.2.2.1.2.2.2, .int .i64 (cutF t p0).1.2.2.2.2.2.2.1, .int .i64 (cutF t p0).1.2.2.2.2.2.2.2.1, .ro tVal (cutF t p0).1.2.2.2.2.2.2.2.2.1, .ro tMake (cutF t p0).1.2.2.2.2.2.2.2.2.2], .c (.int .i64 (cutF t p0).2)]) <|
   .ite ((!(decide ((cutF t p0).2 = 0))))
   (.ret (.c (.lit false)) [.cells 29 (Ty.enc tTrace t), .dead, .cells 29 [.int .i64 (cutF t p0).1.1, .int .i64 (cutF t p0).1.2.1, .int .i64 (cutF t p0).1.2.2.1, .ro tIns (cutF t p0).1.2.2.2.1, .ro tExit (cutF t p0).1.2.2.2.2.1, .int .i64 (cutF t p0).1.2.2.2.2.2.1.1, .int .i64 (cutF t p0).1.2.2.2.2.2.1.2.1, .ro tVal (cutF t p0).1.2.2.2.2.2.1.2.2.1, .ro tMake (cutF t p0).1.2.2.2.2.2.1.2.2.2, .int .i64 (cutF t p0).1.2.2.2.2.2.2.1, .int .i64 (cutF t p0).1.2.2.2.2.2.2.2.1, .ro tVal (cutF t p0).1.2.2.2.2.2.2.2.2.1, .ro tMake (cutF t p0).1.2.2.2.2.2.2.2.2.2]])
   (.call 16 [.agg [.int .i64 (cutF t p0).1.1, .int .i64 (cutF t p0).1.2.1, .int .i64 (cutF t p0).1.2.2.1, .ro tIns (cutF t p0).1.2.2.2.1, .ro tExit (cutF t p0).1.2.2.2.2.1, .int .i64 (cutF t p0).1.2.2.2.2.2.1.1, .int .i64 (cutF t p0).1.2.2.2.2.2.1.2.1, .ro tVal (cutF t p0).1.2.2.2.2.2.1.2.2.1, .ro tMake (cutF t p0).1.2.2.2.2.2.1.2.2.2, .int .i64 (cutF t p0).1.2.2.2.2.2.2.1, .int .i64 (cutF t p0).1.2.2.2.2.2.2.2.1, .ro tVal (cutF t p0).1.2.2.2.2.2.2.2.2.1, .ro tMake (cutF t p0).1.2.2.2.2.2.2.2.2.2], .agg (Ty.enc tTrace t)] false (.c (.bool (decide ((cutF t p0).1 = t)))) <|
    .ite ((!(decide ((cutF t p0).1 = t))))
    (.ret (.c (.lit false)) [.cells 29 (Ty.enc tTrace t), .dead, .cells 29 [.int .i64 (cutF t p0).1.1, .int .i64 (cutF t p0).1.2.1, .int .i64 (cutF t p0).1.2.2.1, .ro tIns (cutF t p0).1.2.2.2.1, .ro tExit (cutF t p0).1.2.2.2.2.1, .int .i64 (cutF t p0).1.2.2.2.2.2.1.1, .int .i64 (cutF t p0).1.2.2.2.2.2.1.2.1, .ro tVal (cutF t p0).1.2.2.2.2.2.1.2.2.1, .ro tMake (cutF t p0).1.2.2.2.2.2.1.2.2.2, .int .i64 (cutF t p0).1.2.2.2.2.2.2.1, .int .i64 (cutF t p0).1.2.2.2.2.2.2.2.1, .ro tVal (cutF t p0).1.2.2.2.2.2.2.2.2.1, .ro tMake (cutF t p0).1.2.2.2.2.2.2.2.2.2]])
    (.call 22 [.agg (Ty.enc tTrace t), .c (.ro tI to)] false (.tup [.agg [.int .i64 (cutF t to).1.1, .int .i64 (cutF t to).1.2.1, .int .i64 (cutF t to).1.2.2.1, .ro tIns (cutF t to).1.2.2.2.1, .ro tExit (cutF t to).1.2.2.2.2.1, .int .i64 (cutF t to).1.2.2.2.2.2.1.1, .int .i64 (cutF t to).1.2.2.2.2.2.1.2.1, .ro tVal (cutF t to).1.2.2.2.2.2.1.2.2.1, .ro tMake (cutF t to).1.2.2.2.2.2.1.2.2.2, .int .i64 (cutF t to).1.2.2.2.2.2.2.1, .int .i64 (cutF t to).1.2.2.2.2.2.2.2.1, .ro tVal (cutF t to).1.2.2.2.2.2.2.2.2.1, .ro tMake (cutF t to).1.2.2.2.2.2.2.2.2.2], .c (.int .i64 (cutF t to).2)]) <|
     .call 15 [] false (.c (.bool true)) <|
     .ite (true)
     (.ite (decide ((cutF t to).2 = 0))
      (.ite (decide (((cutF t to).1.2.2.2.1.length : Int) ≤ (t.2.2.2.1.length : Int)))
       (.ret (.c (.lit true)) [.cells 29 (Ty.enc tTrace t), .dead, .cells 29 [.int .i64 (cutF t p0).1.1, .int .i64 (cutF t p0).1.2.1, .int .i64 (cutF t p0).1.2.2.1, .ro tIns (cutF t p0).1.2.2.2.1, .ro tExit (cutF t p0).1.2.2.2.2.1, .int .i64 (cutF t p0).1.2.2.2.2.2.1.1, .int .i64 (cutF t p0).1.2.2.2.2.2.1.2.1, .ro tVal (cutF t p0).1.2.2.2.2.2.1.2.2.1, .ro tMake (cutF t p0).1.2.2.2.2.2.1.2.2.2, .int .i64 (cutF t p0).1.2.2.2.2.2.2.1, .int .i64 (cutF t p0).1.2.2.2.2.2.2.2.1, .ro tVal (cutF t p0).1.2.2.2.2.2.2.2.2.1, .ro tMake (cutF t p0).1.2.2.2.2.2.2.2.2.2], .cells 29 [.int .i64 (cutF t to).1.1, .int .i64 (cutF t to).1.2.1, .int .i64 (cutF t to).1.2.2.1, .ro tIns (cutF t to).1.2.2.2.1, .ro tExit (cutF t to).1.2.2.2.2.1, .int .i64 (cutF t to).1.2.2.2.2.2.1.1, .int .i64 (cutF t to).1.2.2.2.2.2.1.2.1, .ro tVal (cutF t to).1.2.2.2.2.2.1.2.2.1, .ro tMake (cutF t to).1.2.2.2.2.2.1.2.2.2, .int .i64 (cutF t to).1.2.2.2.2.2.2.1, .int .i64 (cutF t to).1.2.2.2.2.2.2.2.1, .ro tVal (cutF t to).1.2.2.2.2.2.2.2.2.1, .ro tMake (cutF t to).1.2.2.2.2.2.2.2.2.2]])
       (.ite (decide ((cutF t to).2 = 3))
        (.ret (.c (.bool (decide (((cutF t to).1.2.2.2.1.length : Int) = 0)))) [.cells 29 (Ty.enc tTrace t), .dead, .cells 29 [.int .i64 (cutF t p0).1.1, .int .i64 (cutF t p0).1.2.1, .int .i64 (cutF t p0).1.2.2.1, .ro tIns (cutF t p0).1.2.2.2.1, .ro tExit (cutF t p0).1.2.2.2.2.1, .int .i64 (cutF t p0).1.2.2.2.2.2.1.1, .int .i64 (cutF t p0).1.2.2.2.2.2.1.2.1, .ro tVal (cutF t p0).1.2.2.2.2.2.1.2.2.1, .ro tMake (cutF t p0).1.2.2.2.2.2.1.2.2.2, .int .i64 (cutF t p0).1.2.2.2.2.2.2.1, .int .i64 (cutF t p0).1.2.2.2.2.2.2.2.1, .ro tVal (cutF t p0).1.2.2.2.2.2.2.2.2.1, .ro tMake (cutF t p0).1.2.2.2.2.2.2.2.2.2], .cells 29 [.int .i64 (cutF t to).1.1, .int .i64 (cutF t to).1.2.1, .int .i64 (cutF t to).1.2.2.1, .ro tIns (cutF t to).1.2.2.2.1, .ro tExit (cutF t to).1.2.2.2.2.1, .int .i64 (cutF t to).1.2.2.2.2.2.1.1, .int .i64 (cutF t to).1.2.2.2.2.2.1.2.1, .ro tVal (cutF t to).1.2.2.2.2.2.1.2.2.1, .ro tMake (cutF t to).1.2.2.2.2.2.1.2.2.2, .int .i64 (cutF t to).1.2.2.2.2.2.2.1, .int .i64 (cutF t to).1.2.2.2.2.2.2.2.1, .ro tVal (cutF t to).1.2.2.2.2.2.2.2.2.1, .ro tMake (cutF t to).1.2.2.2.2.2.2.2.2.2]])
        (.ret (.c (.lit false)) [.cells 29 (Ty.enc tTrace t), .dead, .cells 29 [.int .i64 (cutF t p0).1.1, .int .i64 (cutF t p0).1.2.1, .int .i64 (cutF t p0).1.2.2.1, .ro tIns (cutF t p0).1.2.2.2.1, .ro tExit (cutF t p0).1.2.2.2.2.1, .int .i64 (cutF t p0).1.2.2.2.2.2.1.1, .int .i64 (cutF t p0).1.2.2.2.2.2.1.2.1, .ro tVal (cutF t p0).1.2.2.2.2.2.1.2.2.1, .ro tMake (cutF t p0).1.2.2.2.2.2.1.2.2.2, .int .i64 (cutF t p0).1.2.2.2.2.2.2.1, .int .i64 (cutF t p0).1.2.2.2.2.2.2.2.1, .ro tVal (cutF t p0).1.2.2.2.2.2.2.2.2.1, .ro tMake (cutF t p0).1.2.2.2.2.2.2.2.2.2], .cells 29 [.int .i64 (cutF t to).1.1, .int .i64 (cutF t to).1.2.1, .int .i64 (cutF t to).1.2.2.1, .ro tIns (cutF t to).1.2.2.2.1, .ro tExit (cutF t to).1.2.2.2.2.1, .int .i64 (cutF t to).1.2.2.2.2.2.1.1, .int .i64 (cutF t to).1.2.2.2.2.2.1.2.1, .ro tVal (cutF t to).1.2.2.2.2.2.1.2.2.1, .ro tMake (cutF t to).1.2.2.2.2.2.1.2.2.2, .int .i64 (cutF t to).1.2.2.2.2.2.2.1, .int .i64 (cutF t to).1.2.2.2.2.2.2.2.1, .ro tVal (cutF t to).1.2.2.2.2.2.2.2.2.1, .ro tMake (cutF t to).1.2.2.2.2.2.2.2.2.2]])))
      (.ite (decide ((cutF t to).2 = 3))
       (.ret (.c (.bool (decide (((cutF t to).1.2.2.2.1.length : Int) = 0)))) [.cells 29 (Ty.enc tTrace t), .dead, .cells 29 [.int .i64 (cutF t p0).1.1, .int .i64 (cutF t p0).1.2.1, .int .i64 (cutF t p0).1.2.2.1, .ro tIns (cutF t p0).1.2.2.2.1, .ro tExit (cutF t p0).1.2.2.2.2.1, .int .i64 (cutF t p0).1.2.2.2.2.2.1.1, .int .i64 (cutF t p0).1.2.2.2.2.2.1.2.1, .ro tVal (cutF t p0).1.2.2.2.2.2.1.2.2.1, .ro tMake (cutF t p0).1.2.2.2.2.2.1.2.2.2, .int .i64 (cutF t p0).1.2.2.2.2.2.2.1, .int .i64 (cutF t p0).1.2.2.2.2.2.2.2.1, .ro tVal (cutF t p0).1.2.2.2.2.2.2.2.2.1, .ro tMake (cutF t p0).1.2.2.2.2.2.2.2.2.2], .cells 29 [.int .i64 (cutF t to).1.1, .int .i64 (cutF t to).1.2.1, .int .i64 (cutF t to).1.2.2.1, .ro tIns (cutF t to).1.2.2.2.1, .ro tExit (cutF t to).1.2.2.2.2.1, .int .i64 (cutF t to).1.2.2.2.2.2.1.1, .int .i64 (cutF t to).1.2.2.2.2.2.1.2.1, .ro tVal (cutF t to).1.2.2.2.2.2.1.2.2.1, .ro tMake (cutF t to).1.2.2.2.2.2.1.2.2.2, .int .i64 (cutF t to).1.2.2.2.2.2.2.1, .int .i64 (cutF t to).1.2.2.2.2.2.2.2.1, .ro tVal (cutF t to).1.2.2.2.2.2.2.2.2.1, .ro tMake (cutF t to).1.2.2.2.2.2.2.2.2.2]])
       (.ret (.c (.lit false)) [.cells 29 (Ty.enc tTrace t), .dead, .cells 29 [.int .i64 (cutF t p0).1.1, .int .i64 (cutF t p0).1.2.1, .int .i64 (cutF t p0).1.2.2.1, .ro tIns (cutF t p0).1.2.2.2.1, .ro tExit (cutF t p0).1.2.2.2.2.1, .int .i64 (cutF t p0).1.2.2.2.2.2.1.1, .int .i64 (cutF t p0).1.2.2.2.2.2.1.2.1, .ro tVal (cutF t p0).1.2.2.2.2.2.1.2.2.1, .ro tMake (cutF t p0).1.2.2.2.2.2.1.2.2.2, .int .i64 (cutF t p0).1.2.2.2.2.2.2.1, .int .i64 (cutF t p0).1.2.2.2.2.2.2.2.1, .ro tVal (cutF t p0).1.2.2.2.2.2.2.2.2.1, .ro tMake (cutF t p0).1.2.2.2.2.2.2.2.2.2], .cells 29 [.int .i64 (cutF t to).1.1, .int .i64 (cutF t to).1.2.1, .int .i64 (cutF t to).1.2.2.1, .ro tIns (cutF t to).1.2.2.2.1, .ro tExit (cutF t to).1.2.2.2.2.1, .int .i64 (cutF t to).1.2.2.2.2.2.1.1, .int .i64 (cutF t to).1.2.2.2.2.2.1.2.1, .ro tVal (cutF t to).1.2.2.2.2.2.1.2.2.1, .ro tMake (cutF t to).1.2.2.2.2.2.1.2.2.2, .int .i64 (cutF t to).1.2.2.2.2.2.2.1, .int .i64 (cutF t to).1.2.2.2.2.2.2.2.1, .ro tVal (cutF t to).1.2.2.2.2.2.2.2.2.1, .ro tMake (cutF t to).1.2.2.2.2.2.2.2.2.2]])))
     (.ret (.c (.lit false)) [.cells 29 (Ty.enc tTrace t), .dead, .cells 29 [.int .i64 (cutF t p0).1.1, .int .i64 (cutF t p0).1.2.1, .int .i64 (cutF t p0).1.2.2.1, .ro tIns (cutF t p0).1.2.2.2.1, .ro tExit (cutF t p0).1.2.2.2.2.1, .int .i64 (cutF t p0).1.2.2.2.2.2.1.1, .int .i64 (cutF t p0).1.2.2.2.2.2.1.2.1, .ro tVal (cutF t p0).1.2.2.2.2.2.1.2.2.1, .ro tMake (cutF t p0).1.2.2.2.2.2.1.2.2.2, .int .i64 (cutF t p0).1.2.2.2.2.2.2.1, .int .i64 (cutF t p0).1.2.2.2.2.2.2.2.1, .ro tVal (cutF t p0).1.2.2.2.2.2.2.2.2.1, .ro tMake (cutF t p0).1.2.2.2.2.2.2.2.2.2], .cells 29 [.int .i64 (cutF t to).1.1, .int .i64 (cutF t to).1.2.1, .int .i64 (cutF t to).1.2.2.1, .ro tIns (cutF t to).1.2.2.2.1, .ro tExit (cutF t to).1.2.2.2.2.1, .int .i64 (cutF t to).1.2.2.2.2.2.1.1, .int .i64 (cutF t to).1.2.2.2.2.2.1.2.1, .ro tVal (cutF t to).1.2.2.2.2.2.1.2.2.1, .ro tMake (cutF t to).1.2.2.2.2.2.1.2.2.2, .int .i64 (cutF t to).1.2.2.2.2.2.2.1, .int .i64 (cutF t to).1.2.2.2.2.2.2.2.1, .ro tVal (cutF t to).1.2.2.2.2.2.2.2.2.1, .ro tMake (cutF t to).1.2.2.2.2.2.2.2.2.2]]))))
theorem cutNone_l0_R_ok (p : EProg) (t : ETrace) (to : List Int) (i : Nat) (p0 : List Int) : aRound Tryd.prog oc60 Tryd.f6 cutNone_lv 3000 (lp (bodyOf Tryd.f6) 0) (J2 (.c (.ro tI to) :: .junk :: .c (.ptr 0 0 0 0) :: J2 (.c (.osl 1 1 p0.length) :: J8 (J4 (.c (.int .i64 (t.2.2.2.1.length : Int)) :: .c (.int .i64 ((i : Nat) : Int)) :: J32 (J16 (J2 (.junk :: [])))))))) [.cells 29 (Ty.enc tTrace t), .ovec 3 tI p0] = cutNone_l0_R p t to i p0 := by kernel_rfl
theorem cutNone_l0 (p : EProg) (t : ETrace) (to : List Int) (i : Nat) (p0 : List Int) (hc : CheckOk p t) (hs : traceSm t) (hi : i ≤ t.2.2.2.1.length) (ha : p0 = iota i) : Run Tryd.prog 6 (retQ Tryd.prog (.c (.bool (true)))) (lp (bodyOf Tryd.f6) 0) (J2 (.c (.ro tI to) :: .junk :: .c (.ptr 0 0 0 0) :: J2 (.c (.osl 1 1 p0.length) :: J8 (J4 (.c (.int .i64 (t.2.2.2.1.length : Int)) :: .c (.int .i64 ((i : Nat) : Int)) :: J32 (J16 (J2 (.junk :: [])))))))) [.cells 29 (Ty.enc tTrace t), .ovec 3 tI p0] :=
  Run.roundA oc60 cutNone_lv 3000 Tryd.func6 mixed (cutNone_l0_R p t to i p0) (cutNone_l0_R_ok p t to i p0) (by
    unfold cutNone_l0_R
    refine g_iteD (fun h0 => ?_) (fun h0 => ?_)
    · refine g_need (rfl) ?_
      refine g_need (⟨rfl, rfl⟩) ?_
      refine g_need (by first | (rw [ha, iota_len]; have := hc.n; simp; omega) | (have := hc.n; rw [i64_iff]; omega) | omega | (rw [i64_iff]; omega) | (rw [i64_iff]; constructor <;> omega)) ?_
      refine g_need (by first | (rw [ha, iota_len]; have := hc.n; simp; omega) | (have := hc.n; rw [i64_iff]; omega) | omega | (rw [i64_iff]; omega) | (rw [i64_iff]; constructor <;> omega)) ?_
      refine g_stop (RunN.keep [0, 3] (F2 (true :: false :: true :: F2 (true :: F8 (F4 (true :: true :: F32 (F16 (F2 (false :: [])))))))) n0 (by decide) rfl rfl ?_)
      exact cutNone_l0 p t to (i + 1) (p0 ++ [((i : Nat) : Int)]) hc hs (by omega) (by rw [ha, iota_succ])
    · refine g_need (rfl) ?_
      refine g_call (cut_fun t p0 hs) (fun h => nomatch h) ?_
      refine g_iteND (fun h1 => ?_) (fun h1 => ?_)
      · refine g_rq ?_
        exact g_rl ((show (false : Bool) = true from by first | (exfalso; rw [cutNone_all hc h0 hi ha] at h1; exact h1 rfl) | (exfalso; rw [cutNone_all hc h0 hi ha] at h2; exact h2 rfl) | (exfalso; cases h3; done) | (rcases cut_any t to with ⟨a, b⟩ | ⟨a, b⟩ <;> first | (exfalso; omega) | exact decide_eq_true (by omega)))) rfl
      · refine g_call (sameT_fun (cutF t p0).1 t) (fun h => nomatch h) ?_
        refine g_iteND (fun h2 => ?_) (fun h2 => ?_)
        · refine g_rq ?_
          exact g_rl ((show (false : Bool) = true from by first | (exfalso; rw [cutNone_all hc h0 hi ha] at h1; exact h1 rfl) | (exfalso; rw [cutNone_all hc h0 hi ha] at h2; exact h2 rfl) | (exfalso; cases h3; done) | (rcases cut_any t to with ⟨a, b⟩ | ⟨a, b⟩ <;> first | (exfalso; omega) | exact decide_eq_true (by omega)))) rfl
        · refine g_call (cut_fun t to hs) (fun h => nomatch h) ?_
          refine g_call (irred_fun) (fun h => nomatch h) ?_
          refine g_ite (fun h3 => ?_) (fun h3 => ?_)
          · refine g_iteD (fun h4 => ?_) (fun h4 => ?_)
            · refine g_iteD (fun h5 => ?_) (fun h5 => ?_)
              · refine g_rq ?_
                exact g_rl (rfl) rfl
              · refine g_iteD (fun h6 => ?_) (fun h6 => ?_)
                · refine g_rq ?_
                  exact g_rl ((show (decide (((cutF t to).1.2.2.2.1.length : Int) = 0) : Bool) = true from by first | (exfalso; rw [cutNone_all hc h0 hi ha] at h1; exact h1 rfl) | (exfalso; rw [cutNone_all hc h0 hi ha] at h2; exact h2 rfl) | (exfalso; cases h3; done) | (rcases cut_any t to with ⟨a, b⟩ | ⟨a, b⟩ <;> first | (exfalso; omega) | exact decide_eq_true (by omega)))) rfl
                · refine g_rq ?_
                  exact g_rl ((show (false : Bool) = true from by first | (exfalso; rw [cutNone_all hc h0 hi ha] at h1; exact h1 rfl) | (exfalso; rw [cutNone_all hc h0 hi ha] at h2; exact h2 rfl) | (exfalso; cases h3; done) | (rcases cut_any t to with ⟨a, b⟩ | ⟨a, b⟩ <;> first | (exfalso; omega) | exact decide_eq_true (by omega)))) rfl
            · refine g_iteD (fun h5 => ?_) (fun h5 => ?_)
              · refine g_rq ?_
                exact g_rl ((show (decide (((cutF t to).1.2.2.2.1.length : Int) = 0) : Bool) = true from by first | (exfalso; rw [cutNone_all hc h0 hi ha] at h1; exact h1 rfl) | (exfalso; rw [cutNone_all hc h0 hi ha] at h2; exact h2 rfl) | (exfalso; cases h3; done) | (rcases cut_any t to with ⟨a, b⟩ | ⟨a, b⟩ <;> first | (exfalso; omega) | exact decide_eq_true (by omega)))) rfl
              · refine g_rq ?_
                exact g_rl ((show (false : Bool) = true from by first | (exfalso; rw [cutNone_all hc h0 hi ha] at h1; exact h1 rfl) | (exfalso; rw [cutNone_all hc h0 hi ha] at h2; exact h2 rfl) | (exfalso; cases h3; done) | (rcases cut_any t to with ⟨a, b⟩ | ⟨a, b⟩ <;> first | (exfalso; omega) | exact decide_eq_true (by omega)))) rfl
          · refine g_rq ?_
            exact g_rl ((show (false : Bool) = true from by first | (exfalso; rw [cutNone_all hc h0 hi ha] at h1; exact h1 rfl) | (exfalso; rw [cutNone_all hc h0 hi ha] at h2; exact h2 rfl) | (exfalso; cases h3; done) | (rcases cut_any t to with ⟨a, b⟩ | ⟨a, b⟩ <;> first | (exfalso; omega) | exact decide_eq_true (by omega)))) rfl
    )
  termination_by t.2.2.2.1.length - i
  decreasing_by all_goals omega
theorem cutNone_fun (p : EProg) (t : ETrace) (to : List Int) : AFun Tryd.prog 6 [.agg (tProg.enc p), .agg (tTrace.enc t), .c (.ro tI to)] (.c (.bool (true))) :=
  AFun.of oc60 cutNone_lv 3000 Tryd.func6 mixed rfl (by decide) (Nat.le_of_ble_eq_true rfl) _ (cutNone_T_ok p t to) fun hF => by
    unfold cutNone_T
    refine g_call (check_fun p t) (fun h => nomatch h) ?_
    refine g_iteND (fun h0 => ?_) (fun h0 => ?_)
    · refine g_call (irred_fun) (fun h => nomatch h) ?_
      refine g_rq ?_
      exact g_rl (leAV.refl _) rfl
    · refine g_stop (RunN.keep [1, 1001] (F2 (true :: false :: true :: F2 (true :: F8 (F4 (true :: true :: F32 (F16 (F2 (false :: [])))))))) n0 (by decide) rfl rfl ?_)
      refine RunN.less (env' := (J2 (.c (.ro tI to) :: .junk :: .c (.ptr 0 0 0 0) :: J2 (.c (.osl 1 1 0) :: J8 (J4 (.c (.int .i64 (t.2.2.2.1.length : Int)) :: .c (.int .i64 ((0 : Nat) : Int)) :: J32 (J16 (J2 (.junk :: []))))))))) (H' := [.cells 29 (Ty.enc tTrace t), .ovec 3 tI ([])]) (leAVs.skip 7 rfl ⟨rfl, leAVs.same rfl⟩) (⟨leB.refl _, rfl, trivial⟩) ?_
      have hc := check_iff.1 h0; exact cutNone_l0 p t to 0 ([]) hc hc.small (by omega) rfl

end Go.Proofs.YtefkifdhjabdiaaDoor
