/- What the laws' texts lean on, part 5: lemmas and the contracts of functions. No condition. -/
import Derived.Test.YtefkifdhjabdiaaDoorM1
import Derived.Test.YtefkifdhjabdiaaDoorM3
import Derived.DeepKeys4
namespace Go.Proofs.YtefkifdhjabdiaaDoor
set_option maxHeartbeats 4000000
set_option linter.unusedVariables false
set_option linter.unusedSimpArgs false
set_option maxRecDepth 100000
def ownK (kind : Int → Int) (x : EIns) : Int :=
  if x.1 = 2 then x.2.2.2.2.2.2.1 else if x.1 = 15 then 2 else if x.1 = 16 then 5 else if x.1 = 18 then 5 else
  if x.1 = 7 ∨ x.1 = 8 then (if 8 ≤ x.2.2.2.2.1 ∧ x.2.2.2.2.1 ≤ 10 ∧ x.1 = 7 ∨ x.2.2.2.2.1 = 11 ∧ x.1 = 8 then 1 else if kind x.2.1 = 2 ∨ kind x.2.1 = 3 then kind x.2.1 else -1) else -1
def scanK (v : Int) : List EIns → Int
  | [] => -1
  | x :: r => if x.2.1 = v then (if x.1 = 4 then x.2.2.2.2.1 else if x.1 = 6 then x.2.2.2.2.2.2.1 else if x.1 = 9 then 5 else scanK v r) else scanK v r
def kindN (t : ETrace) : Nat → Int → Int → Int
  | 0, _, _ => -1
  | n + 1, v, a => if v < 0 then -1 else if a ≤ v then -1 else if (t.2.2.2.1.length : Int) < a then -1 else if tellF (t.2.2.2.1.getD v.toNat tIns.dflt).1 = false then -1 else
    if 0 ≤ ownK (fun b => kindN t n b v) (t.2.2.2.1.getD v.toNat tIns.dflt) then ownK (fun b => kindN t n b v) (t.2.2.2.1.getD v.toNat tIns.dflt) else scanK v ((t.2.2.2.1.take a.toNat).drop (v + 1).toNat)
noncomputable def oc24 (n : Nat) : Orc where
  pure := fun f args => match f, args with
    | 21, [a0, a1, a2] => match dA tTrace a0, dA tI a1, dA tI a2 with
      | some x0, some x1, some x2 => some (.c (.int .i64 (kindN x0 n x1 x2)))
      | _, _, _ => none
    | _, _ => none
  heap := fun _ _ _ => none
def own_lv : LV := ⟨(false :: true :: true :: F2 (true :: F32 (F16 (F8 ([]))))), [12]⟩
noncomputable def own_T (t : ETrace) (n : Nat) (v : Int) : Tree :=
  .need ((0 : Int) ≤ v ∧ (v : Int) < (t.2.2.2.1.length : Int)) <|
  .need ((Int.toNat v) < t.2.2.2.1.length) <|
  .ite (decide ((t.2.2.2.1.getD (Int.toNat v) tIns.dflt).1 = 2))
  (.ret (.c (.int .i64 (t.2.2.2.1.getD (Int.toNat v) tIns.dflt).2.2.2.2.2.2.1)) [.cells 29 (Ty.enc tTrace t), .cells 46 [.int .i64 (t.2.2.2.1.getD (Int.toNat v) tIns.dflt).1, .int .i64 (t.2.2.2.1.getD (Int.toNat v) tIns.dflt).2.1, .int .i64 (t.2.2.2.1.getD (Int.toNat v) tIns.dflt).2.2.1, .int .i64 (t.2.2.2.1.getD (Int.toNat v) tIns.dflt).2.2.2.1, .int .i64 (t.2.2.2.1.getD (Int.toNat v) tIns.dflt).2.2.2.2.1, .int .i64 (t.2.2.2.1.getD (Int.toNat v) tIns.dflt).2.2.2.2.2.1, .int .i64 (t.2.2.2.1.getD (Int.toNat v) tIns.dflt).2.2.2.2.2.2.1, .int .i64 (t.2.2.2.1.getD (Int.toNat v) tIns.dflt).2.2.2.2.2.2.2]])
  (.ite (decide ((t.2.2.2.1.getD (Int.toNat v) tIns.dflt).1 = 15))
   (.ret (.c (.int .i64 2)) [.cells 29 (Ty.enc tTrace t), .cells 46 [.int .i64 (t.2.2.2.1.getD (Int.toNat v) tIns.dflt).1, .int .i64 (t.2.2.2.1.getD (Int.toNat v) tIns.dflt).2.1, .int .i64 (t.2.2.2.1.getD (Int.toNat v) tIns.dflt).2.2.1, .int .i64 (t.2.2.2.1.getD (Int.toNat v) tIns.dflt).2.2.2.1, .int .i64 (t.2.2.2.1.getD (Int.toNat v) tIns.dflt).2.2.2.2.1, .int .i64 (t.2.2.2.1.getD (Int.toNat v) tIns.dflt).2.2.2.2.2.1, .int .i64 (t.2.2.2.1.getD (Int.toNat v) tIns.dflt).2.2.2.2.2.2.1, .int .i64 (t.2.2.2.1.getD (Int.toNat v) tIns.dflt).2.2.2.2.2.2.2]])
   (.ite (decide ((t.2.2.2.1.getD (Int.toNat v) tIns.dflt).1 = 16))
    (.ite (decide ((t.2.2.2.1.getD (Int.toNat v) tIns.dflt).1 = 16))
     (.ret (.c (.int .i64 5)) [.cells 29 (Ty.enc tTrace t), .cells 46 [.int .i64 (t.2.2.2.1.getD (Int.toNat v) tIns.dflt).1, .int .i64 (t.2.2.2.1.getD (Int.toNat v) tIns.dflt).2.1, .int .i64 (t.2.2.2.1.getD (Int.toNat v) tIns.dflt).2.2.1, .int .i64 (t.2.2.2.1.getD (Int.toNat v) tIns.dflt).2.2.2.1, .int .i64 (t.2.2.2.1.getD (Int.toNat v) tIns.dflt).2.2.2.2.1, .int .i64 (t.2.2.2.1.getD (Int.toNat v) tIns.dflt).2.2.2.2.2.1, .int .i64 (t.2.2.2.1.getD (Int.toNat v) tIns.dflt).2.2.2.2.2.2.1, .int .i64 (t.2.2.2.1.getD (Int.toNat v) tIns.dflt).2.2.2.2.2.2.2]])
     (.ite (decide ((t.2.2.2.1.getD (Int.toNat v) tIns.dflt).1 = 7))
      (.ite (decide ((t.2.2.2.1.getD (Int.toNat v) tIns.dflt).1 = 7))
       (.stop (rg (bodyOf Tryd.f47) 12) (.junk :: .c (.int .i64 v) :: .c (.ptr 0 0 0 0) :: J2 (.c (.ptr 1 0 0 0) :: J32 (J16 (J8 ([]))))) [.cells 29 (Ty.enc tTrace t), .cells 46 [.int .i64 (t.2.2.2.1.getD (Int.toNat v) tIns.dflt).1, .int .i64 (t.2.2.2.1.getD (Int.toNat v) tIns.dflt).2.1, .int .i64 (t.2.2.2.1.getD (Int.toNat v) tIns.dflt).2.2.1, .int .i64 (t.2.2.2.1.getD (Int.toNat v) tIns.dflt).2.2.2.1, .int .i64 (t.2.2.2.1.getD (Int.toNat v) tIns.dflt).2.2.2.2.1, .int .i64 (t.2.2.2.1.getD (Int.toNat v) tIns.dflt).2.2.2.2.2.1, .int .i64 (t.2.2.2.1.getD (Int.toNat v) tIns.dflt).2.2.2.2.2.2.1, .int .i64 (t.2.2.2.1.getD (Int.toNat v) tIns.dflt).2.2.2.2.2.2.2]])
       (.ret (.c (.int .i64 (-1))) [.cells 29 (Ty.enc tTrace t), .cells 46 [.int .i64 (t.2.2.2.1.getD (Int.toNat v) tIns.dflt).1, .int .i64 (t.2.2.2.1.getD (Int.toNat v) tIns.dflt).2.1, .int .i64 (t.2.2.2.1.getD (Int.toNat v) tIns.dflt).2.2.1, .int .i64 (t.2.2.2.1.getD (Int.toNat v) tIns.dflt).2.2.2.1, .int .i64 (t.2.2.2.1.getD (Int.toNat v) tIns.dflt).2.2.2.2.1, .int .i64 (t.2.2.2.1.getD (Int.toNat v) tIns.dflt).2.2.2.2.2.1, .int .i64 (t.2.2.2.1.getD (Int.toNat v) tIns.dflt).2.2.2.2.2.2.1, .int .i64 (t.2.2.2.1.getD (Int.toNat v) tIns.dflt).2.2.2.2.2.2.2]]))
      (.ite (decide ((t.2.2.2.1.getD (Int.toNat v) tIns.dflt).1 = 8))
       (.stop (rg (bodyOf Tryd.f47) 12) (.junk :: .c (.int .i64 v) :: .c (.ptr 0 0 0 0) :: J2 (.c (.ptr 1 0 0 0) :: J32 (J16 (J8 ([]))))) [.cells 29 (Ty.enc tTrace t), .cells 46 [.int .i64 (t.2.2.2.1.getD (Int.toNat v) tIns.dflt).1, .int .i64 (t.2.2.2.1.getD (Int.toNat v) tIns.dflt).2.1, .int .i64 (t.2.2.2.1.getD (Int.toNat v) tIns.dflt).2.2.1, .int .i64 (t.2.2.2.1.getD (Int.toNat v) tIns.dflt).2.2.2.1, .int .i64 (t.2.2.2.1.getD (Int.toNat v) tIns.dflt).2.2.2.2.1, .int .i64 (t.2.2.2.1.getD (Int.toNat v) tIns.dflt).2.2.2.2.2.1, .int .i64 (t.2.2.2.1.getD (Int.toNat v) tIns.dflt).2.2.2.2.2.2.1, .int .i64 (t.2.2.2.1.getD (Int.toNat v) tIns.dflt).2.2.2.2.2.2.2]])
       (.ret (.c (.int .i64 (-1))) [.cells 29 (Ty.enc tTrace t), .cells 46 [.int .i64 (t.2.2.2.1.getD (Int.toNat v) tIns.dflt).1, .int .i64 (t.2.2.2.1.getD (Int.toNat v) tIns.dflt).2.1, .int .i64 (t.2.2.2.1.getD (Int.toNat v) tIns.dflt).2.2.1, .int .i64 (t.2.2.2.1.getD (Int.toNat v) tIns.dflt).2.2.2.1, .int .i64 (t.2.2.2.1.getD (Int.toNat v) tIns.dflt).2.2.2.2.1, .int .i64 (t.2.2.2.1.getD (Int.toNat v) tIns.dflt).2.2.2.2.2.1, .int .i64 (t.2.2.2.1.getD (Int.toNat v) tIns.dflt).2.2.2.2.2.2.1, .int .i64 (t.2.2.2.1.getD (Int.toNat v) tIns.dflt).2.2.2.2.2.2.2]]))))
    (.ite (decide ((t.2.2.2.1.getD (Int.toNat v) tIns.dflt).1 = 18))
     (.ret (.c (.int .i64 5)) [.cells 29 (Ty.enc tTrace t), .cells 46 [.int .i64 (t.2.2.2.1.getD (Int.toNat v) tIns.dflt).1, .int .i64 (t.2.2.2.1.getD (Int.toNat v) tIns.dflt).2.1, .int .i64 (t.2.2.2.1.getD (Int.toNat v) tIns.dflt).2.2.1, .int .i64 (t.2.2.2.1.getD (Int.toNat v) tIns.dflt).2.2.2.1, .int .i64 (t.2.2.2.1.getD (Int.toNat v) tIns.dflt).2.2.2.2.1, .int .i64 (t.2.2.2.1.getD (Int.toNat v) tIns.dflt).2.2.2.2.2.1, .int .i64 (t.2.2.2.1.getD (Int.toNat v) tIns.dflt).2.2.2.2.2.2.1, .int .i64 (t.2.2.2.1.getD (Int.toNat v) tIns.dflt).2.2.2.2.2.2.2]])
     (.ite (decide ((t.2.2.2.1.getD (Int.toNat v) tIns.dflt).1 = 7))
      (.ite (decide ((t.2.2.2.1.getD (Int.toNat v) tIns.dflt).1 = 7))
       (.stop (rg (bodyOf Tryd.f47) 12) (.junk :: .c (.int .i64 v) :: .c (.ptr 0 0 0 0) :: J2 (.c (.ptr 1 0 0 0) :: J32 (J16 (J8 ([]))))) [.cells 29 (Ty.enc tTrace t), .cells 46 [.int .i64 (t.2.2.2.1.getD (Int.toNat v) tIns.dflt).1, .int .i64 (t.2.2.2.1.getD (Int.toNat v) tIns.dflt).2.1, .int .i64 (t.2.2.2.1.getD (Int.toNat v) tIns.dflt).2.2.1, .int .i64 (t.2.2.2.1.getD (Int.toNat v) tIns.dflt).2.2.2.1, .int .i64 (t.2.2.2.1.getD (Int.toNat v) tIns.dflt).2.2.2.2.1, .int .i64 (t.2.2.2.1.getD (Int.toNat v) tIns.dflt).2.2.2.2.2.1, .int .i64 (t.2.2.2.1.getD (Int.toNat v) tIns.dflt).2.2.2.2.2.2.1, .int .i64 (t.2.2.2.1.getD (Int.toNat v) tIns.dflt).2.2.2.2.2.2.2]])
       (.ret (.c (.int .i64 (-1))) [.cells 29 (Ty.enc tTrace t), .cells 46 [.int .i64 (t.2.2.2.1.getD (Int.toNat v) tIns.dflt).1, .int .i64 (t.2.2.2.1.getD (Int.toNat v) tIns.dflt).2.1, .int .i64 (t.2.2.2.1.getD (Int.toNat v) tIns.dflt).2.2.1, .int .i64 (t.2.2.2.1.getD (Int.toNat v) tIns.dflt).2.2.2.1, .int .i64 (t.2.2.2.1.getD (Int.toNat v) tIns.dflt).2.2.2.2.1, .int .i64 (t.2.2.2.1.getD (Int.toNat v) tIns.dflt).2.2.2.2.2.1, .int .i64 (t.2.2.2.1.getD (Int.toNat v) tIns.dflt).2.2.2.2.2.2.1, .int .i64 (t.2.2.2.1.getD (Int.toNat v) tIns.dflt).2.2.2.2.2.2.2]]))
      (.ite (decide ((t.2.2.2.1.getD (Int.toNat v) tIns.dflt).1 = 8))
       (.stop (rg (bodyOf Tryd.f47) 12) (.junk :: .c (.int .i64 v) :: .c (.ptr 0 0 0 0) :: J2 (.c (.ptr 1 0 0 0) :: J32 (J16 (J8 ([]))))) [.cells 29 (Ty.enc tTrace t), .cells 46 [.int .i64 (t.2.2.2.1.getD (Int.toNat v) tIns.dflt).1, .int .i64 (t.2.2.2.1.getD (Int.toNat v) tIns.dflt).2.1, .int .i64 (t.2.2.2.1.getD (Int.toNat v) tIns.dflt).2.2.1, .int .i64 (t.2.2.2.1.getD (Int.toNat v) tIns.dflt).2.2.2.1, .int .i64 (t.2.2.2.1.getD (Int.toNat v) tIns.dflt).2.2.2.2.1, .int .i64 (t.2.2.2.1.getD (Int.toNat v) tIns.dflt).2.2.2.2.2.1, .int .i64 (t.2.2.2.1.getD (Int.toNat v) tIns.dflt).2.2.2.2.2.2.1, .int .i64 (t.2.2.2.1.getD (Int.toNat v) tIns.dflt).2.2.2.2.2.2.2]])
       (.ret (.c (.int .i64 (-1))) [.cells 29 (Ty.enc tTrace t), .cells 46 [.int .i64 (t.2.2.2.1.getD (Int.toNat v) tIns.dflt).1, .int .i64 (t.2.2.2.1.getD (Int.toNat v) tIns.dflt).2.1, .int .i64 (t.2.2.2.1.getD (Int.toNat v) tIns.dflt).2.2.1, .int .i64 (t.2.2.2.1.getD (Int.toNat v) tIns.dflt).2.2.2.1, .int .i64 (t.2.2.2.1.getD (Int.toNat v) tIns.dflt).2.2.2.2.1, .int .i64 (t.2.2.2.1.getD (Int.toNat v) tIns.dflt).2.2.2.2.2.1, .int .i64 (t.2.2.2.1.getD (Int.toNat v) tIns.dflt).2.2.2.2.2.2.1, .int .i64 (t.2.2.2.1.getD (Int.toNat v) tIns.dflt).2.2.2.2.2.2.2]]))))))
theorem own_T_ok (t : ETrace) (n : Nat) (v : Int) : aRun Tryd.prog (oc24 n) Tryd.f47 own_lv 3000 [.code (bodyOf Tryd.f47)] ([.agg (tTrace.enc t), .c (.int .i64 v)] ++ List.replicate (Func.ntmps Tryd.f47 - 2) .junk) [] = own_T t n v := by kernel_rfl
noncomputable def own_r12_R (t : ETrace) (n : Nat) (v : Int) : Tree :=
  .ite (decide ((8 : Int) ≤ (t.2.2.2.1.getD (Int.toNat v) tIns.dflt).2.2.2.2.1))
  (.ite (decide ((t.2.2.2.1.getD (Int.toNat v) tIns.dflt).2.2.2.2.1 ≤ 10))
   (.ite (decide ((t.2.2.2.1.getD (Int.toNat v) tIns.dflt).1 = 7))
    (.ret (.c (.int .i64 1)) [.cells 29 (Ty.enc tTrace t), .cells 46 [.int .i64 (t.2.2.2.1.getD (Int.toNat v) tIns.dflt).1, .int .i64 (t.2.2.2.1.getD (Int.toNat v) tIns.dflt).2.1, .int .i64 (t.2.2.2.1.getD (Int.toNat v) tIns.dflt).2.2.1, .int .i64 (t.2.2.2.1.getD (Int.toNat v) tIns.dflt).2.2.2.1, .int .i64 (t.2.2.2.1.getD (Int.toNat v) tIns.dflt).2.2.2.2.1, .int .i64 (t.2.2.2.1.getD (Int.toNat v) tIns.dflt).2.2.2.2.2.1, .int .i64 (t.2.2.2.1.getD (Int.toNat v) tIns.dflt).2.2.2.2.2.2.1, .int .i64 (t.2.2.2.1.getD (Int.toNat v) tIns.dflt).2.2.2.2.2.2.2]])
    (.ite (decide ((t.2.2.2.1.getD (Int.toNat v) tIns.dflt).2.2.2.2.1 = 11))
     (.ite (decide ((t.2.2.2.1.getD (Int.toNat v) tIns.dflt).1 = 8))
      (.ret (.c (.int .i64 1)) [.cells 29 (Ty.enc tTrace t), .cells 46 [.int .i64 (t.2.2.2.1.getD (Int.toNat v) tIns.dflt).1, .int .i64 (t.2.2.2.1.getD (Int.toNat v) tIns.dflt).2.1, .int .i64 (t.2.2.2.1.getD (Int.toNat v) tIns.dflt).2.2.1, .int .i64 (t.2.2.2.1.getD (Int.toNat v) tIns.dflt).2.2.2.1, .int .i64 (t.2.2.2.1.getD (Int.toNat v) tIns.dflt).2.2.2.2.1, .int .i64 (t.2.2.2.1.getD (Int.toNat v) tIns.dflt).2.2.2.2.2.1, .int .i64 (t.2.2.2.1.getD (Int.toNat v) tIns.dflt).2.2.2.2.2.2.1, .int .i64 (t.2.2.2.1.getD (Int.toNat v) tIns.dflt).2.2.2.2.2.2.2]])
      (.call 21 [.agg (Ty.enc tTrace t), .c (.int .i64 (t.2.2.2.1.getD (Int.toNat v) tIns.dflt).2.1), .c (.int .i64 v)] false (.c (.int .i64 (kindN t n (t.2.2.2.1.getD (Int.toNat v) tIns.dflt).2.1 v))) <|
       .ite (decide (kindN t n (t.2.2.2.1.getD (Int.toNat v) tIns.dflt).2.1 v = 2))
       (.ret (.c (.int .i64 (kindN t n (t.2.2.2.1.getD (Int.toNat v) tIns.dflt).2.1 v))) [.cells 29 (Ty.enc tTrace t), .cells 46 [.int .i64 (t.2.2.2.1.getD (Int.toNat v) tIns.dflt).1, .int .i64 (t.2.2.2.1.getD (Int.toNat v) tIns.dflt).2.1, .int .i64 (t.2.2.2.1.getD (Int.toNat v) tIns.dflt).2.2.1, .int .i64 (t.2.2.2.1.getD (Int.toNat v) tIns.dflt).2.2.2.1, .int .i64 (t.2.2.2.1.getD (Int.toNat v) tIns.dflt).2.2.2.2.1, .int .i64 (t.2.2.2.1.getD (Int.toNat v) tIns.dflt).2.2.2.2.2.1, .int .i64 (t.2.2.2.1.getD (Int.toNat v) tIns.dflt).2.2.2.2.2.2.1, .int .i64 (t.2.2.2.1.getD (Int.toNat v) tIns.dflt).2.2.2.2.2.2.2]])
       (.ite (decide (kindN t n (t.2.2.2.1.getD (Int.toNat v) tIns.dflt).2.1 v = 3))
        (.ret (.c (.int .i64 (kindN t n (t.2.2.2.1.getD (Int.toNat v) tIns.dflt).2.1 v))) [.cells 29 (Ty.enc tTrace t), .cells 46 [.int .i64 (t.2.2.2.1.getD (Int.toNat v) tIns.dflt).1, .int .i64 (t.2.2.2.1.getD (Int.toNat v) tIns.dflt).2.1, .int .i64 (t.2.2.2.1.getD (Int.toNat v) tIns.dflt).2.2.1, .int .i64 (t.2.2.2.1.getD (Int.toNat v) tIns.dflt).2.2.2.1, .int .i64 (t.2.2.2.1.getD (Int.toNat v) tIns.dflt).2.2.2.2.1, .int .i64 (t.2.2.2.1.getD (Int.toNat v) tIns.dflt).2.2.2.2.2.1, .int .i64 (t.2.2.2.1.getD (Int.toNat v) tIns.dflt).2.2.2.2.2.2.1, .int .i64 (t.2.2.2.1.getD (Int.toNat v) tIns.dflt).2.2.2.2.2.2.2]])
        (.ret (.c (.int .i64 (-1))) [.cells 29 (Ty.enc tTrace t), .cells 46 [.int .i64 (t.2.2.2.1.getD (Int.toNat v) tIns.dflt).1, .int .i64 (t.2.2.2.1.getD (Int.toNat v) tIns.dflt).2.1, .int .i64 (t.2.2.2.1.getD (Int.toNat v) tIns.dflt).2.2.1, .int .i64 (t.2.2.2.1.getD (Int.toNat v) tIns.dflt).2.2.2.1, .int .i64 (t.2.2.2.1.getD (Int.toNat v) tIns.dflt).2.2.2.2.1, .int .i64 (t.2.2.2.1.getD (Int.toNat v) tIns.dflt).2.2.2.2.2.1, .int .i64 (t.2.2.2.1.getD (Int.toNat v) tIns.dflt).2.2.2.2.2.2.1, .int .i64 (t.2.2.2.1.getD (Int.toNat v) tIns.dflt).2.2.2.2.2.2.2]]))))
     (.call 21 [.agg (Ty.enc tTrace t), .c (.int .i64 (t.2.2.2.1.getD (Int.toNat v) tIns.dflt).2.1), .c (.int .i64 v)] false (.c (.int .i64 (kindN t n (t.2.2.2.1.getD (Int.toNat v) tIns.dflt).2.1 v))) <|
      .ite (decide (kindN t n (t.2.2.2.1.getD (Int.toNat v) tIns.dflt).2.1 v = 2))
      (.ret (.c (.int .i64 (kindN t n (t.2.2.2.1.getD (Int.toNat v) tIns.dflt).2.1 v))) [.cells 29 (Ty.enc tTrace t), .cells 46 [.int .i64 (t.2.2.2.1.getD (Int.toNat v) tIns.dflt).1, .int .i64 (t.2.2.2.1.getD (Int.toNat v) tIns.dflt).2.1, .int .i64 (t.2.2.2.1.getD (Int.toNat v) tIns.dflt).2.2.1, .int .i64 (t.2.2.2.1.getD (Int.toNat v) tIns.dflt).2.2.2.1, .int .i64 (t.2.2.2.1.getD (Int.toNat v) tIns.dflt).2.2.2.2.1, .int .i64 (t.2.2.2.1.getD (Int.toNat v) tIns.dflt).2.2.2.2.2.1, .int .i64 (t.2.2.2.1.getD (Int.toNat v) tIns.dflt).2.2.2.2.2.2.1, .int .i64 (t.2.2.2.1.getD (Int.toNat v) tIns.dflt).2.2.2.2.2.2.2]])
      (.ite (decide (kindN t n (t.2.2.2.1.getD (Int.toNat v) tIns.dflt).2.1 v = 3))
       (.ret (.c (.int .i64 (kindN t n (t.2.2.2.1.getD (Int.toNat v) tIns.dflt).2.1 v))) [.cells 29 (Ty.enc tTrace t), .cells 46 [.int .i64 (t.2.2.2.1.getD (Int.toNat v) tIns.dflt).1, .int .i64 (t.2.2.2.1.getD (Int.toNat v) tIns.dflt).2.1, .int .i64 (t.2.2.2.1.getD (Int.toNat v) tIns.dflt).2.2.1, .int .i64 (t.2.2.2.1.getD (Int.toNat v) tIns.dflt).2.2.2.1, .int .i64 (t.2.2.2.1.getD (Int.toNat v) tIns.dflt).2.2.2.2.1, .int .i64 (t.2.2.2.1.getD (Int.toNat v) tIns.dflt).2.2.2.2.2.1, .int .i64 (t.2.2.2.1.getD (Int.toNat v) tIns.dflt).2.2.2.2.2.2.1, .int .i64 (t.2.2.2.1.getD (Int.toNat v) tIns.dflt).2.2.2.2.2.2.2]])
       (.ret (.c (.int .i64 (-1))) [.cells 29 (Ty.enc tTrace t), .cells 46 [.int .i64 (t.2.2.2.1.getD (Int.toNat v) tIns.dflt).1, .int .i64 (t.2.2.2.1.getD (Int.toNat v) tIns.dflt).2.1, .int .i64 (t.2.2.2.1.getD (Int.toNat v) tIns.dflt).2.2.1, .int .i64 (t.2.2.2.1.getD (Int.toNat v) tIns.dflt).2.2.2.1, .int .i64 (t.2.2.2.1.getD (Int.toNat v) tIns.dflt).2.2.2.2.1, .int .i64 (t.2.2.2.1.getD (Int.toNat v) tIns.dflt).2.2.2.2.2.1, .int .i64 (t.2.2.2.1.getD (Int.toNat v) tIns.dflt).2.2.2.2.2.2.1, .int .i64 (t.2.2.2.1.getD (Int.toNat v) tIns.dflt).2.2.2.2.2.2.2]])))))
   (.ite (decide ((t.2.2.2.1.getD (Int.toNat v) tIns.dflt).2.2.2.2.1 = 11))
    (.ite (decide ((t.2.2.2.1.getD (Int.toNat v) tIns.dflt).1 = 8))
     (.ret (.c (.int .i64 1)) [.cells 29 (Ty.enc tTrace t), .cells 46 [.int .i64 (t.2.2.2.1.getD (Int.toNat v) tIns.dflt).1, .int .i64 (t.2.2.2.1.getD (Int.toNat v) tIns.dflt).2.1, .int .i64 (t.2.2.2.1.getD (Int.toNat v) tIns.dflt).2.2.1, .int .i64 (t.2.2.2.1.getD (Int.toNat v) tIns.dflt).2.2.2.1, .int .i64 (t.2.2.2.1.getD (Int.toNat v) tIns.dflt).2.2.2.2.1, .int .i64 (t.2.2.2.1.getD (Int.toNat v) tIns.dflt).2.2.2.2.2.1, .int .i64 (t.2.2.2.1.getD (Int.toNat v) tIns.dflt).2.2.2.2.2.2.1, .int .i64 (t.2.2.2.1.getD (Int.toNat v) tIns.dflt).2.2.2.2.2.2.2]])
     (.call 21 [.agg (Ty.enc tTrace t), .c (.int .i64 (t.2.2.2.1.getD (Int.toNat v) tIns.dflt).2.1), .c (.int .i64 v)] false (.c (.int .i64 (kindN t n (t.2.2.2.1.getD (Int.toNat v) tIns.dflt).2.1 v))) <|
      .ite (decide (kindN t n (t.2.2.2.1.getD (Int.toNat v) tIns.dflt).2.1 v = 2))
      (.ret (.c (.int .i64 (kindN t n (t.2.2.2.1.getD (Int.toNat v) tIns.dflt).2.1 v))) [.cells 29 (Ty.enc tTrace t), .cells 46 [.int .i64 (t.2.2.2.1.getD (Int.toNat v) tIns.dflt).1, .int .i64 (t.2.2.2.1.getD (Int.toNat v) tIns.dflt).2.1, .int .i64 (t.2.2.2.1.getD (Int.toNat v) tIns.dflt).2.2.1, .int .i64 (t.2.2.2.1.getD (Int.toNat v) tIns.dflt).2.2.2.1, .int .i64 (t.2.2.2.1.getD (Int.toNat v) tIns.dflt).2.2.2.2.1, .int .i64 (t.2.2.2.1.getD (Int.toNat v) tIns.dflt).2.2.2.2.2.1, .int .i64 (t.2.2.2.1.getD (Int.toNat v) tIns.dflt).2.2.2.2.2.2.1, .int .i64 (t.2.2.2.1.getD (Int.toNat v) tIns.dflt).2.2.2.2.2.2.2]])
      (.ite (decide (kindN t n (t.2.2.2.1.getD (Int.toNat v) tIns.dflt).2.1 v = 3))
       (.ret (.c (.int .i64 (kindN t n (t.2.2.2.1.getD (Int.toNat v) tIns.dflt).2.1 v))) [.cells 29 (Ty.enc tTrace t), .cells 46 [.int .i64 (t.2.2.2.1.getD (Int.toNat v) tIns.dflt).1, .int .i64 (t.2.2.2.1.getD (Int.toNat v) tIns.dflt).2.1, .int .i64 (t.2.2.2.1.getD (Int.toNat v) tIns.dflt).2.2.1, .int .i64 (t.2.2.2.1.getD (Int.toNat v) tIns.dflt).2.2.2.1, .int .i64 (t.2.2.2.1.getD (Int.toNat v) tIns.dflt).2.2.2.2.1, .int .i64 (t.2.2.2.1.getD (Int.toNat v) tIns.dflt).2.2.2.2.2.1, .int .i64 (t.2.2.2.1.getD (Int.toNat v) tIns.dflt).2.2.2.2.2.2.1, .int .i64 (t.2.2.2.1.getD (Int.toNat v) tIns.dflt).2.2.2.2.2.2.2]])
       (.ret (.c (.int .i64 (-1))) [.cells 29 (Ty.enc tTrace t), .cells 46 [.int .i64 (t.2.2.2.1.getD (Int.toNat v) tIns.dflt).1, .int .i64 (t.2.2.2.1.getD (Int.toNat v) tIns.dflt).2.1, .int .i64 (t.2.2.2.1.getD (Int.toNat v) tIns.dflt).2.2.1, .int .i64 (t.2.2.2.1.getD (Int.toNat v) tIns.dflt).2.2.2.1, .int .i64 (t.2.2.2.1.getD (Int.toNat v) tIns.dflt).2.2.2.2.1, .int .i64 (t.2.2.2.1.getD (Int.toNat v) tIns.dflt).2.2.2.2.2.1, .int .i64 (t.2.2.2.1.getD (Int.toNat v) tIns.dflt).2.2.2.2.2.2.1, .int .i64 (t.2.2.2.1.getD (Int.toNat v) tIns.dflt).2.2.2.2.2.2.2]]))))
    (.call 21 [.agg (Ty.enc tTrace t), .c (.int .i64 (t.2.2.2.1.getD (Int.toNat v) tIns.dflt).2.1), .c (.int .i64 v)] false (.c (.int .i64 (kindN t n (t.2.2.2.1.getD (Int.toNat v) tIns.dflt).2.1 v))) <|
     .ite (decide (kindN t n (t.2.2.2.1.getD (Int.toNat v) tIns.dflt).2.1 v = 2))
     (.ret (.c (.int .i64 (kindN t n (t.2.2.2.1.getD (Int.toNat v) tIns.dflt).2.1 v))) [.cells 29 (Ty.enc tTrace t), .cells 46 [.int .i64 (t.2.2.2.1.getD (Int.toNat v) tIns.dflt).1, .int .i64 (t.2.2.2.1.getD (Int.toNat v) tIns.dflt).2.1, .int .i64 (t.2.2.2.1.getD (Int.toNat v) tIns.dflt).2.2.1, .int .i64 (t.2.2.2.1.getD (Int.toNat v) tIns.dflt).2.2.2.1, .int .i64 (t.2.2.2.1.getD (Int.toNat v) tIns.dflt).2.2.2.2.1, .int .i64 (t.2.2.2.1.getD (Int.toNat v) tIns.dflt).2.2.2.2.2.1, .int .i64 (t.2.2.2.1.getD (Int.toNat v) tIns.dflt).2.2.2.2.2.2.1, .int .i64 (t.2.2.2.1.getD (Int.toNat v) tIns.dflt).2.2.2.2.2.2.2]])
     (.ite (decide (kindN t n (t.2.2.2.1.getD (Int.toNat v) tIns.dflt).2.1 v = 3))
      (.ret (.c (.int .i64 (kindN t n (t.2.2.2.1.getD (Int.toNat v) tIns.dflt).2.1 v))) [.cells 29 (Ty.enc tTrace t), .cells 46 [.int .i64 (t.2.2.2.1.getD (Int.toNat v) tIns.dflt).1, .int .i64 (t.2.2.2.1.getD (Int.toNat v) tIns.dflt).2.1, .int .i64 (t.2.2.2.1.getD (Int.toNat v) tIns.dflt).2.2.1, .int .i64 (t.2.2.2.1.getD (Int.toNat v) tIns.dflt).2.2.2.1, .int .i64 (t.2.2.2.1.getD (Int.toNat v) tIns.dflt).2.2.2.2.1, .int .i64 (t.2.2.2.1.getD (Int.toNat v) tIns.dflt).2.2.2.2.2.1, .int .i64 (t.2.2.2.1.getD (Int.toNat v) tIns.dflt).2.2.2.2.2.2.1, .int .i64 (t.2.2.2.1.getD (Int.toNat v) tIns.dflt).2.2.2.2.2.2.2]])
      (.ret (.c (.int .i64 (-1))) [.cells 29 (Ty.enc tTrace t), .cells 46 [.int .i64 (t.2.2.2.1.getD (Int.toNat v) tIns.dflt).1, .int .i64 (t.2.2.2.1.getD (Int.toNat v) tIns.dflt).2.1, .int .i64 (t.2.2.2.1.getD (Int.toNat v) tIns.dflt).2.2.1, .int .i64 (t.2.2.2.1.getD (Int.toNat v) tIns.dflt).2.2.2.1, .int .i64 (t.2.2.2.1.getD (Int.toNat v) tIns.dflt).2.2.2.2.1, .int .i64 (t.2.2.2.1.getD (Int.toNat v) tIns.dflt).2.2.2.2.2.1, .int .i64 (t.2.2.2.1.getD (Int.toNat v) tIns.dflt).2.2.2.2.2.2.1, .int .i64 (t.2.2.2.1.getD (Int.toNat v) tIns.dflt).2.2.2.2.2.2.2]])))))
  (.ite (decide ((t.2.2.2.1.getD (Int.toNat v) tIns.dflt).2.2.2.2.1 = 11))
   (.ite (decide ((t.2.2.2.1.getD (Int.toNat v) tIns.dflt).1 = 8))
    (.ret (.c (.int .i64 1)) [.cells 29 (Ty.enc tTrace t), .cells 46 [.int .i64 (t.2.2.2.1.getD (Int.toNat v) tIns.dflt).1, .int .i64 (t.2.2.2.1.getD (Int.toNat v) tIns.dflt).2.1, .int .i64 (t.2.2.2.1.getD (Int.toNat v) tIns.dflt).2.2.1, .int .i64 (t.2.2.2.1.getD (Int.toNat v) tIns.dflt).2.2.2.1, .int .i64 (t.2.2.2.1.getD (Int.toNat v) tIns.dflt).2.2.2.2.1, .int .i64 (t.2.2.2.1.getD (Int.toNat v) tIns.dflt).2.2.2.2.2.1, .int .i64 (t.2.2.2.1.getD (Int.toNat v) tIns.dflt).2.2.2.2.2.2.1, .int .i64 (t.2.2.2.1.getD (Int.toNat v) tIns.dflt).2.2.2.2.2.2.2]])
    (.call 21 [.agg (Ty.enc tTrace t), .c (.int .i64 (t.2.2.2.1.getD (Int.toNat v) tIns.dflt).2.1), .c (.int .i64 v)] false (.c (.int .i64 (kindN t n (t.2.2.2.1.getD (Int.toNat v) tIns.dflt).2.1 v))) <|
     .ite (decide (kindN t n (t.2.2.2.1.getD (Int.toNat v) tIns.dflt).2.1 v = 2))
     (.ret (.c (.int .i64 (kindN t n (t.2.2.2.1.getD (Int.toNat v) tIns.dflt).2.1 v))) [.cells 29 (Ty.enc tTrace t), .cells 46 [.int .i64 (t.2.2.2.1.getD (Int.toNat v) tIns.dflt).1, .int .i64 (t.2.2.2.1.getD (Int.toNat v) tIns.dflt).2.1, .int .i64 (t.2.2.2.1.getD (Int.toNat v) tIns.dflt).2.2.1, .int .i64 (t.2.2.2.1.getD (Int.toNat v) tIns.dflt).2.2.2.1, .int .i64 (t.2.2.2.1.getD (Int.toNat v) tIns.dflt).2.2.2.2.1, .int .i64 (t.2.2.2.1.getD (Int.toNat v) tIns.dflt).2.2.2.2.2.1, .int .i64 (t.2.2.2.1.getD (Int.toNat v) tIns.dflt).2.2.2.2.2.2.1, .int .i64 (t.2.2.2.1.getD (Int.toNat v) tIns.dflt).2.2.2.2.2.2.2]])
     (.ite (decide (kindN t n (t.2.2.2.1.getD (Int.toNat v) tIns.dflt).2.1 v = 3))
      (.ret (.c (.int .i64 (kindN t n (t.2.2.2.1.getD (Int.toNat v) tIns.dflt).2.1 v))) [.cells 29 (Ty.enc tTrace t), .cells 46 [.int .i64 (t.2.2.2.1.getD (Int.toNat v) tIns.dflt).1, .int .i64 (t.2.2.2.1.getD (Int.toNat v) tIns.dflt).2.1, .int .i64 (t.2.2.2.1.getD (Int.toNat v) tIns.dflt).2.2.1, .int .i64 (t.2.2.2.1.getD (Int.toNat v) tIns.dflt).2.2.2.1, .int .i64 (t.2.2.2.1.getD (Int.toNat v) tIns.dflt).2.2.2.2.1, .int .i64 (t.2.2.2.1.getD (Int.toNat v) tIns.dflt).2.2.2.2.2.1, .int .i64 (t.2.2.2.1.getD (Int.toNat v) tIns.dflt).2.2.2.2.2.2.1, .int .i64 (t.2.2.2.1.getD (Int.toNat v) tIns.dflt).2.2.2.2.2.2.2]])
      (.ret (.c (.int .i64 (-1))) [.cells 29 (Ty.enc tTrace t), .cells 46 [.int .i64 (t.2.2.2.1.getD (Int.toNat v) tIns.dflt).1, .int .i64 (t.2.2.2.1.getD (Int.toNat v) tIns.dflt).2.1, .int .i64 (t.2.2.2.1.getD (Int.toNat v) tIns.dflt).2.2.1, .int .i64 (t.2.2.2.1.getD (Int.toNat v) tIns.dflt).2.2.2.1, .int .i64 (t.2.2.2.1.getD (Int.toNat v) tIns.dflt).2.2.2.2.1, .int .i64 (t.2.2.2.1.getD (Int.toNat v) tIns.dflt).2.2.2.2.2.1, .int .i64 (t.2.2.2.1.getD (Int.toNat v) tIns.dflt).2.2.2.2.2.2.1, .int .i64 (t.2.2.2.1.getD (Int.toNat v) tIns.dflt).2.2.2.2.2.2.2]]))))
   (.call 21 [.agg (Ty.enc tTrace t), .c (.int .i64 (t.2.2.2.1.getD (Int.toNat v) tIns.dflt).2.1), .c (.int .i64 v)] false (.c (.int .i64 (kindN t n (t.2.2.2.1.getD (Int.toNat v) tIns.dflt).2.1 v))) <|
    .ite (decide (kindN t n (t.2.2.2.1.getD (Int.toNat v) tIns.dflt).2.1 v = 2))
    (.ret (.c (.int .i64 (kindN t n (t.2.2.2.1.getD (Int.toNat v) tIns.dflt).2.1 v))) [.cells 29 (Ty.enc tTrace t), .cells 46 [.int .i64 (t.2.2.2.1.getD (Int.toNat v) tIns.dflt).1, .int .i64 (t.2.2.2.1.getD (Int.toNat v) tIns.dflt).2.1, .int .i64 (t.2.2.2.1.getD (Int.toNat v) tIns.dflt).2.2.1, .int .i64 (t.2.2.2.1.getD (Int.toNat v) tIns.dflt).2.2.2.1, .int .i64 (t.2.2.2.1.getD (Int.toNat v) tIns.dflt).2.2.2.2.1, .int .i64 (t.2.2.2.1.getD (Int.toNat v) tIns.dflt).2.2.2.2.2.1, .int .i64 (t.2.2.2.1.getD (Int.toNat v) tIns.dflt).2.2.2.2.2.2.1, .int .i64 (t.2.2.2.1.getD (Int.toNat v) tIns.dflt).2.2.2.2.2.2.2]])
    (.ite (decide (kindN t n (t.2.2.2.1.getD (Int.toNat v) tIns.dflt).2.1 v = 3))
     (.ret (.c (.int .i64 (kindN t n (t.2.2.2.1.getD (Int.toNat v) tIns.dflt).2.1 v))) [.cells 29 (Ty.enc tTrace t), .cells 46 [.int .i64 (t.2.2.2.1.getD (Int.toNat v) tIns.dflt).1, .int .i64 (t.2.2.2.1.getD (Int.toNat v) tIns.dflt).2.1, .int .i64 (t.2.2.2.1.getD (Int.toNat v) tIns.dflt).2.2.1, .int .i64 (t.2.2.2.1.getD (Int.toNat v) tIns.dflt).2.2.2.1, .int .i64 (t.2.2.2.1.getD (Int.toNat v) tIns.dflt).2.2.2.2.1, .int .i64 (t.2.2.2.1.getD (Int.toNat v) tIns.dflt).2.2.2.2.2.1, .int .i64 (t.2.2.2.1.getD (Int.toNat v) tIns.dflt).2.2.2.2.2.2.1, .int .i64 (t.2.2.2.1.getD (Int.toNat v) tIns.dflt).2.2.2.2.2.2.2]])
     (.ret (.c (.int .i64 (-1))) [.cells 29 (Ty.enc tTrace t), .cells 46 [.int .i64 (t.2.2.2.1.getD (Int.toNat v) tIns.dflt).1, .int .i64 (t.2.2.2.1.getD (Int.toNat v) tIns.dflt).2.1, .int .i64 (t.2.2.2.1.getD (Int.toNat v) tIns.dflt).2.2.1, .int .i64 (t.2.2.2.1.getD (Int.toNat v) tIns.dflt).2.2.2.1, .int .i64 (t.2.2.2.1.getD (Int.toNat v) tIns.dflt).2.2.2.2.1, .int .i64 (t.2.2.2.1.getD (Int.toNat v) tIns.dflt).2.2.2.2.2.1, .int .i64 (t.2.2.2.1.getD (Int.toNat v) tIns.dflt).2.2.2.2.2.2.1, .int .i64 (t.2.2.2.1.getD (Int.toNat v) tIns.dflt).2.2.2.2.2.2.2]]))))
theorem own_r12_R_ok (t : ETrace) (n : Nat) (v : Int) : aRound Tryd.prog (oc24 n) Tryd.f47 own_lv 3000 (rg (bodyOf Tryd.f47) 12) (.junk :: .c (.int .i64 v) :: .c (.ptr 0 0 0 0) :: J2 (.c (.ptr 1 0 0 0) :: J32 (J16 (J8 ([]))))) [.cells 29 (Ty.enc tTrace t), .cells 46 [.int .i64 (t.2.2.2.1.getD (Int.toNat v) tIns.dflt).1, .int .i64 (t.2.2.2.1.getD (Int.toNat v) tIns.dflt).2.1, .int .i64 (t.2.2.2.1.getD (Int.toNat v) tIns.dflt).2.2.1, .int .i64 (t.2.2.2.1.getD (Int.toNat v) tIns.dflt).2.2.2.1, .int .i64 (t.2.2.2.1.getD (Int.toNat v) tIns.dflt).2.2.2.2.1, .int .i64 (t.2.2.2.1.getD (Int.toNat v) tIns.dflt).2.2.2.2.2.1, .int .i64 (t.2.2.2.1.getD (Int.toNat v) tIns.dflt).2.2.2.2.2.2.1, .int .i64 (t.2.2.2.1.getD (Int.toNat v) tIns.dflt).2.2.2.2.2.2.2]] = own_r12_R t n v := by kernel_rfl
theorem own_r12 (t : ETrace) (n : Nat) (v : Int) (hk : ∀ a : Int, AFun Tryd.prog 21 [.agg (Ty.enc tTrace t), .c (.int .i64 a), .c (.int .i64 v)] (.c (.int .i64 (kindN t n a v)))) (hv : 0 ≤ v ∧ v < (t.2.2.2.1.length : Int)) (hop : (t.2.2.2.1.getD (Int.toNat v) tIns.dflt).1 = 7 ∨ (t.2.2.2.1.getD (Int.toNat v) tIns.dflt).1 = 8) : Run Tryd.prog 47 (retQ Tryd.prog (.c (.int .i64 (ownK (fun b => kindN t n b v) (t.2.2.2.1.getD (Int.toNat v) tIns.dflt))))) (rg (bodyOf Tryd.f47) 12) (.junk :: .c (.int .i64 v) :: .c (.ptr 0 0 0 0) :: J2 (.c (.ptr 1 0 0 0) :: J32 (J16 (J8 ([]))))) [.cells 29 (Ty.enc tTrace t), .cells 46 [.int .i64 (t.2.2.2.1.getD (Int.toNat v) tIns.dflt).1, .int .i64 (t.2.2.2.1.getD (Int.toNat v) tIns.dflt).2.1, .int .i64 (t.2.2.2.1.getD (Int.toNat v) tIns.dflt).2.2.1, .int .i64 (t.2.2.2.1.getD (Int.toNat v) tIns.dflt).2.2.2.1, .int .i64 (t.2.2.2.1.getD (Int.toNat v) tIns.dflt).2.2.2.2.1, .int .i64 (t.2.2.2.1.getD (Int.toNat v) tIns.dflt).2.2.2.2.2.1, .int .i64 (t.2.2.2.1.getD (Int.toNat v) tIns.dflt).2.2.2.2.2.2.1, .int .i64 (t.2.2.2.1.getD (Int.toNat v) tIns.dflt).2.2.2.2.2.2.2]] :=
  Run.roundA (oc24 n) own_lv 3000 Tryd.func47 mixed (own_r12_R t n v) (own_r12_R_ok t n v) (by
    unfold own_r12_R
    refine g_iteD (fun h0 => ?_) (fun h0 => ?_)
    · refine g_iteD (fun h1 => ?_) (fun h1 => ?_)
      · refine g_iteD (fun h2 => ?_) (fun h2 => ?_)
        · exact g_reti (by simp only [ownK]; (repeat' split) <;> first | rfl | omega | (exfalso; omega) | (simp_all; done))
        · refine g_iteD (fun h3 => ?_) (fun h3 => ?_)
          · refine g_iteD (fun h4 => ?_) (fun h4 => ?_)
            · exact g_reti (by simp only [ownK]; (repeat' split) <;> first | rfl | omega | (exfalso; omega) | (simp_all; done))
            · refine g_call (hk (t.2.2.2.1.getD (Int.toNat v) tIns.dflt).2.1) (fun h => nomatch h) ?_
              refine g_iteD (fun h5 => ?_) (fun h5 => ?_)
              · exact g_reti (by simp only [ownK]; (repeat' split) <;> first | rfl | omega | (exfalso; omega) | (simp_all; done))
              · refine g_iteD (fun h6 => ?_) (fun h6 => ?_)
                · exact g_reti (by simp only [ownK]; (repeat' split) <;> first | rfl | omega | (exfalso; omega) | (simp_all; done))
                · exact g_reti (by simp only [ownK]; (repeat' split) <;> first | rfl | omega | (exfalso; omega) | (simp_all; done))
          · refine g_call (hk (t.2.2.2.1.getD (Int.toNat v) tIns.dflt).2.1) (fun h => nomatch h) ?_
            refine g_iteD (fun h4 => ?_) (fun h4 => ?_)
            · exact g_reti (by simp only [ownK]; (repeat' split) <;> first | rfl | omega | (exfalso; omega) | (simp_all; done))
            · refine g_iteD (fun h5 => ?_) (fun h5 => ?_)
              · exact g_reti (by simp only [ownK]; (repeat' split) <;> first | rfl | omega | (exfalso; omega) | (simp_all; done))
              · exact g_reti (by simp only [ownK]; (repeat' split) <;> first | rfl | omega | (exfalso; omega) | (simp_all; done))
      · refine g_iteD (fun h2 => ?_) (fun h2 => ?_)
        · refine g_iteD (fun h3 => ?_) (fun h3 => ?_)
          · exact g_reti (by simp only [ownK]; (repeat' split) <;> first | rfl | omega | (exfalso; omega) | (simp_all; done))
          · refine g_call (hk (t.2.2.2.1.getD (Int.toNat v) tIns.dflt).2.1) (fun h => nomatch h) ?_
            refine g_iteD (fun h4 => ?_) (fun h4 => ?_)
            · exact g_reti (by simp only [ownK]; (repeat' split) <;> first | rfl | omega | (exfalso; omega) | (simp_all; done))
            · refine g_iteD (fun h5 => ?_) (fun h5 => ?_)
              · exact g_reti (by simp only [ownK]; (repeat' split) <;> first | rfl | omega | (exfalso; omega) | (simp_all; done))
              · exact g_reti (by simp only [ownK]; (repeat' split) <;> first | rfl | omega | (exfalso; omega) | (simp_all; done))
        · refine g_call (hk (t.2.2.2.1.getD (Int.toNat v) tIns.dflt).2.1) (fun h => nomatch h) ?_
          refine g_iteD (fun h3 => ?_) (fun h3 => ?_)
          · exact g_reti (by simp only [ownK]; (repeat' split) <;> first | rfl | omega | (exfalso; omega) | (simp_all; done))
          · refine g_iteD (fun h4 => ?_) (fun h4 => ?_)
            · exact g_reti (by simp only [ownK]; (repeat' split) <;> first | rfl | omega | (exfalso; omega) | (simp_all; done))
            · exact g_reti (by simp only [ownK]; (repeat' split) <;> first | rfl | omega | (exfalso; omega) | (simp_all; done))
    · refine g_iteD (fun h1 => ?_) (fun h1 => ?_)
      · refine g_iteD (fun h2 => ?_) (fun h2 => ?_)
        · exact g_reti (by simp only [ownK]; (repeat' split) <;> first | rfl | omega | (exfalso; omega) | (simp_all; done))
        · refine g_call (hk (t.2.2.2.1.getD (Int.toNat v) tIns.dflt).2.1) (fun h => nomatch h) ?_
          refine g_iteD (fun h3 => ?_) (fun h3 => ?_)
          · exact g_reti (by simp only [ownK]; (repeat' split) <;> first | rfl | omega | (exfalso; omega) | (simp_all; done))
          · refine g_iteD (fun h4 => ?_) (fun h4 => ?_)
            · exact g_reti (by simp only [ownK]; (repeat' split) <;> first | rfl | omega | (exfalso; omega) | (simp_all; done))
            · exact g_reti (by simp only [ownK]; (repeat' split) <;> first | rfl | omega | (exfalso; omega) | (simp_all; done))
      · refine g_call (hk (t.2.2.2.1.getD (Int.toNat v) tIns.dflt).2.1) (fun h => nomatch h) ?_
        refine g_iteD (fun h2 => ?_) (fun h2 => ?_)
        · exact g_reti (by simp only [ownK]; (repeat' split) <;> first | rfl | omega | (exfalso; omega) | (simp_all; done))
        · refine g_iteD (fun h3 => ?_) (fun h3 => ?_)
          · exact g_reti (by simp only [ownK]; (repeat' split) <;> first | rfl | omega | (exfalso; omega) | (simp_all; done))
          · exact g_reti (by simp only [ownK]; (repeat' split) <;> first | rfl | omega | (exfalso; omega) | (simp_all; done))
    )
theorem own_fun (t : ETrace) (n : Nat) (v : Int) (hk : ∀ a : Int, AFun Tryd.prog 21 [.agg (Ty.enc tTrace t), .c (.int .i64 a), .c (.int .i64 v)] (.c (.int .i64 (kindN t n a v)))) (hv : 0 ≤ v ∧ v < (t.2.2.2.1.length : Int)) : AFun Tryd.prog 47 [.agg (tTrace.enc t), .c (.int .i64 v)] (.c (.int .i64 (ownK (fun b => kindN t n b v) (t.2.2.2.1.getD (Int.toNat v) tIns.dflt)))) :=
  AFun.of (oc24 n) own_lv 3000 Tryd.func47 mixed rfl (by decide) (Nat.le_of_ble_eq_true rfl) _ (own_T_ok t n v) fun hF => by
    unfold own_T
    refine g_need (by omega) ?_
    refine g_need (by omega) ?_
    refine g_iteD (fun h0 => ?_) (fun h0 => ?_)
    · exact g_reti (by simp only [ownK]; (repeat' split) <;> first | rfl | omega | (exfalso; omega) | (simp_all; done))
    · refine g_iteD (fun h1 => ?_) (fun h1 => ?_)
      · exact g_reti (by simp only [ownK]; (repeat' split) <;> first | rfl | omega | (exfalso; omega) | (simp_all; done))
      · refine g_iteD (fun h2 => ?_) (fun h2 => ?_)
        · refine g_iteD (fun h3 => ?_) (fun h3 => ?_)
          · exact g_reti (by simp only [ownK]; (repeat' split) <;> first | rfl | omega | (exfalso; omega) | (simp_all; done))
          · refine g_iteD (fun h4 => ?_) (fun h4 => ?_)
            · refine g_iteD (fun h5 => ?_) (fun h5 => ?_)
              · refine g_stop (RunN.keep [0, 1] (false :: true :: true :: F2 (true :: F32 (F16 (F8 ([]))))) n0 (by decide) rfl rfl ?_)
                exact own_r12 t n v hk hv (by first | exact .inl (by assumption) | exact .inr (by assumption))
              · exact g_reti (by simp only [ownK]; (repeat' split) <;> first | rfl | omega | (exfalso; omega) | (simp_all; done))
            · refine g_iteD (fun h5 => ?_) (fun h5 => ?_)
              · refine g_stop (RunN.keep [0, 1] (false :: true :: true :: F2 (true :: F32 (F16 (F8 ([]))))) n0 (by decide) rfl rfl ?_)
                exact own_r12 t n v hk hv (by first | exact .inl (by assumption) | exact .inr (by assumption))
              · exact g_reti (by simp only [ownK]; (repeat' split) <;> first | rfl | omega | (exfalso; omega) | (simp_all; done))
        · refine g_iteD (fun h3 => ?_) (fun h3 => ?_)
          · exact g_reti (by simp only [ownK]; (repeat' split) <;> first | rfl | omega | (exfalso; omega) | (simp_all; done))
          · refine g_iteD (fun h4 => ?_) (fun h4 => ?_)
            · refine g_iteD (fun h5 => ?_) (fun h5 => ?_)
              · refine g_stop (RunN.keep [0, 1] (false :: true :: true :: F2 (true :: F32 (F16 (F8 ([]))))) n0 (by decide) rfl rfl ?_)
                exact own_r12 t n v hk hv (by first | exact .inl (by assumption) | exact .inr (by assumption))
              · exact g_reti (by simp only [ownK]; (repeat' split) <;> first | rfl | omega | (exfalso; omega) | (simp_all; done))
            · refine g_iteD (fun h5 => ?_) (fun h5 => ?_)
              · refine g_stop (RunN.keep [0, 1] (false :: true :: true :: F2 (true :: F32 (F16 (F8 ([]))))) n0 (by decide) rfl rfl ?_)
                exact own_r12 t n v hk hv (by first | exact .inl (by assumption) | exact .inr (by assumption))
              · exact g_reti (by simp only [ownK]; (repeat' split) <;> first | rfl | omega | (exfalso; omega) | (simp_all; done))

noncomputable def oc25 (n : Nat) : Orc where
  pure := fun f args => match f, args with
    | 19, [a0] => match dA tI a0 with
      | some x0 => some (.c (.bool (tellF x0)))
      | _ => none
    | 47, [a0, a1] => match dA tTrace a0, dA tI a1 with
      | some x0, some x1 => some (.c (.int .i64 (ownK (fun b => kindN x0 n b x1) (x0.2.2.2.1.getD (Int.toNat x1) tIns.dflt))))
      | _, _ => none
    | _, _ => none
  heap := fun _ _ _ => none
def kind_lv : LV := ⟨(false :: true :: true :: true :: F4 (true :: F32 (F32 (false :: [])))), []⟩
noncomputable def kind_T (t : ETrace) (n : Nat) (v : Int) (a : Int) : Tree :=
  .ite (decide (v < 0))
  (.ret (.c (.int .i64 (-1))) [.cells 29 (Ty.enc tTrace t)])
  (.ite (decide (a ≤ v))
   (.ret (.c (.int .i64 (-1))) [.cells 29 (Ty.enc tTrace t)])
   (.ite (decide ((t.2.2.2.1.length : Int) < a))
    (.ret (.c (.int .i64 (-1))) [.cells 29 (Ty.enc tTrace t)])
    (.need ((0 : Int) ≤ v ∧ (v : Int) < (t.2.2.2.1.length : Int)) <|
     .need ((Int.toNat v) < t.2.2.2.1.length) <|
     .call 19 [.c (.int .i64 (t.2.2.2.1.getD (Int.toNat v) tIns.dflt).1)] false (.c (.bool (tellF (t.2.2.2.1.getD (Int.toNat v) tIns.dflt).1))) <|
     .ite ((!(tellF (t.2.2.2.1.getD (Int.toNat v) tIns.dflt).1)))
     (.ret (.c (.int .i64 (-1))) [.cells 29 (Ty.enc tTrace t)])
     (.call 47 [.agg (Ty.enc tTrace t), .c (.int .i64 v)] false (.c (.int .i64 (ownK (fun b => kindN t n b v) (t.2.2.2.1.getD (Int.toNat v) tIns.dflt)))) <|
      .ite (decide ((0 : Int) ≤ ownK (fun b => kindN t n b v) (t.2.2.2.1.getD (Int.toNat v) tIns.dflt)))
      (.ret (.c (.int .i64 (ownK (fun b => kindN t n b v) (t.2.2.2.1.getD (Int.toNat v) tIns.dflt)))) [.cells 29 (Ty.enc tTrace t)])
      (.need (inR .i64 (v + 1)) <|
       .stop (lp (bodyOf Tryd.f21) 0) (.junk :: .c (.int .i64 v) :: .c (.int .i64 a) :: .c (.ptr 0 0 0 0) :: J4 (.c (.int .i64 (v + 1)) :: J32 (J32 (.junk :: [])))) [.cells 29 (Ty.enc tTrace t)])))))
theorem kind_T_ok (t : ETrace) (n : Nat) (v : Int) (a : Int) : aRun Tryd.prog (oc25 n) Tryd.f21 kind_lv 3000 [.code (bodyOf Tryd.f21)] ([.agg (tTrace.enc t), .c (.int .i64 v), .c (.int .i64 a)] ++ List.replicate (Func.ntmps Tryd.f21 - 3) .junk) [] = kind_T t n v a := by kernel_rfl
noncomputable def kind_l0_R (t : ETrace) (n : Nat) (v : Int) (a : Int) (i : Int) : Tree :=
  .ite (decide (i < a))
  (.need ((0 : Int) ≤ i ∧ (i : Int) < (t.2.2.2.1.length : Int)) <|
   .need ((Int.toNat i) < t.2.2.2.1.length) <|
   .ite ((!(decide ((t.2.2.2.1.getD (Int.toNat i) tIns.dflt).2.1 = v))))
   (.need (inR .i64 (i + 1)) <|
    .stop (lp (bodyOf Tryd.f21) 0) (.junk :: .c (.int .i64 v) :: .c (.int .i64 a) :: .c (.ptr 0 0 0 0) :: J4 (.c (.int .i64 (i + 1)) :: J32 (J32 (.junk :: [])))) [.cells 29 (Ty.enc tTrace t), .cells 46 [.int .i64 (t.2.2.2.1.getD (Int.toNat i) tIns.dflt).1, .int .i64 (t.2.2.2.1.getD (Int.toNat i) tIns.dflt).2.1, .int .i64 (t.2.2.2.1.getD (Int.toNat i) tIns.dflt).2.2.1, .int .i64 (t.2.2.2.1.getD (Int.toNat i) tIns.dflt).2.2.2.1, .int .i64 (t.2.2.2.1.getD (Int.toNat i) tIns.dflt).2.2.2.2.1, .int .i64 (t.2.2.2.1.getD (Int.toNat i) tIns.dflt).2.2.2.2.2.1, .int .i64 (t.2.2.2.1.getD (Int.toNat i) tIns.dflt).2.2.2.2.2.2.1, .int .i64 (t.2.2.2.1.getD (Int.toNat i) tIns.dflt).2.2.2.2.2.2.2]])
   (.ite (decide ((t.2.2.2.1.getD (Int.toNat i) tIns.dflt).1 = 4))
    (.ret (.c (.int .i64 (t.2.2.2.1.getD (Int.toNat i) tIns.dflt).2.2.2.2.1)) [.cells 29 (Ty.enc tTrace t), .cells 46 [.int .i64 (t.2.2.2.1.getD (Int.toNat i) tIns.dflt).1, .int .i64 (t.2.2.2.1.getD (Int.toNat i) tIns.dflt).2.1, .int .i64 (t.2.2.2.1.getD (Int.toNat i) tIns.dflt).2.2.1, .int .i64 (t.2.2.2.1.getD (Int.toNat i) tIns.dflt).2.2.2.1, .int .i64 (t.2.2.2.1.getD (Int.toNat i) tIns.dflt).2.2.2.2.1, .int .i64 (t.2.2.2.1.getD (Int.toNat i) tIns.dflt).2.2.2.2.2.1, .int .i64 (t.2.2.2.1.getD (Int.toNat i) tIns.dflt).2.2.2.2.2.2.1, .int .i64 (t.2.2.2.1.getD (Int.toNat i) tIns.dflt).2.2.2.2.2.2.2]])
    (.ite (decide ((t.2.2.2.1.getD (Int.toNat i) tIns.dflt).1 = 6))
     (.ret (.c (.int .i64 (t.2.2.2.1.getD (Int.toNat i) tIns.dflt).2.2.2.2.2.2.1)) [.cells 29 (Ty.enc tTrace t), .cells 46 [.int .i64 (t.2.2.2.1.getD (Int.toNat i) tIns.dflt).1, .int .i64 (t.2.2.2.1.getD (Int.toNat i) tIns.dflt).2.1, .int .i64 (t.2.2.2.1.getD (Int.toNat i) tIns.dflt).2.2.1, .int .i64 (t.2.2.2.1.getD (Int.toNat i) tIns.dflt).2.2.2.1, .int .i64 (t.2.2.2.1.getD (Int.toNat i) tIns.dflt).2.2.2.2.1, .int .i64 (t.2.2.2.1.getD (Int.toNat i) tIns.dflt).2.2.2.2.2.1, .int .i64 (t.2.2.2.1.getD (Int.toNat i) tIns.dflt).2.2.2.2.2.2.1, .int .i64 (t.2.2.2.1.getD (Int.toNat i) tIns.dflt).2.2.2.2.2.2.2]])
     (.ite (decide ((t.2.2.2.1.getD (Int.toNat i) tIns.dflt).1 = 9))
      (.ret (.c (.int .i64 5)) [.cells 29 (Ty.enc tTrace t), .cells 46 [.int .i64 (t.2.2.2.1.getD (Int.toNat i) tIns.dflt).1, .int .i64 (t.2.2.2.1.getD (Int.toNat i) tIns.dflt).2.1, .int .i64 (t.2.2.2.1.getD (Int.toNat i) tIns.dflt).2.2.1, .int .i64 (t.2.2.2.1.getD (Int.toNat i) tIns.dflt).2.2.2.1, .int .i64 (t.2.2.2.1.getD (Int.toNat i) tIns.dflt).2.2.2.2.1, .int .i64 (t.2.2.2.1.getD (Int.toNat i) tIns.dflt).2.2.2.2.2.1, .int .i64 (t.2.2.2.1.getD (Int.toNat i) tIns.dflt).2.2.2.2.2.2.1, .int .i64 (t.2.2.2.1.getD (Int.toNat i) tIns.dflt).2.2.2.2.2.2.2]])
      (.need (inR .i64 (i + 1)) <|
       .stop (lp (bodyOf Tryd.f21) 0) (.junk :: .c (.int .i64 v) :: .c (.int .i64 a) :: .c (.ptr 0 0 0 0) :: J4 (.c (.int .i64 (i + 1)) :: J32 (J32 (.junk :: [])))) [.cells 29 (Ty.enc tTrace t), .cells 46 [.int .i64 (t.2.2.2.1.getD (Int.toNat i) tIns.dflt).1, .int .i64 (t.2.2.2.1.getD (Int.toNat i) tIns.dflt).2.1, .int .i64 (t.2.2.2.1.getD (Int.toNat i) tIns.dflt).2.2.1, .int .i64 (t.2.2.2.1.getD (Int.toNat i) tIns.dflt).2.2.2.1, .int .i64 (t.2.2.2.1.getD (Int.toNat i) tIns.dflt).2.2.2.2.1, .int .i64 (t.2.2.2.1.getD (Int.toNat i) tIns.dflt).2.2.2.2.2.1, .int .i64 (t.2.2.2.1.getD (Int.toNat i) tIns.dflt).2.2.2.2.2.2.1, .int .i64 (t.2.2.2.1.getD (Int.toNat i) tIns.dflt).2.2.2.2.2.2.2]])))))
  (.ret (.c (.int .i64 (-1))) [.cells 29 (Ty.enc tTrace t)])
theorem kind_l0_R_ok (t : ETrace) (n : Nat) (v : Int) (a : Int) (i : Int) : aRound Tryd.prog (oc25 n) Tryd.f21 kind_lv 3000 (lp (bodyOf Tryd.f21) 0) (.junk :: .c (.int .i64 v) :: .c (.int .i64 a) :: .c (.ptr 0 0 0 0) :: J4 (.c (.int .i64 i) :: J32 (J32 (.junk :: [])))) [.cells 29 (Ty.enc tTrace t)] = kind_l0_R t n v a i := by kernel_rfl
theorem kind_l0 (t : ETrace) (n : Nat) (v : Int) (a : Int) (i : Int) (hi : 0 ≤ i ∧ a ≤ (t.2.2.2.1.length : Int)) (hl : t.2.2.2.1.length ≤ 9223372036854775807) : Run Tryd.prog 21 (retQ Tryd.prog (.c (.int .i64 (scanK v ((t.2.2.2.1.take a.toNat).drop i.toNat))))) (lp (bodyOf Tryd.f21) 0) (.junk :: .c (.int .i64 v) :: .c (.int .i64 a) :: .c (.ptr 0 0 0 0) :: J4 (.c (.int .i64 i) :: J32 (J32 (.junk :: [])))) [.cells 29 (Ty.enc tTrace t)] :=
  Run.roundA (oc25 n) kind_lv 3000 Tryd.func21 mixed (kind_l0_R t n v a i) (kind_l0_R_ok t n v a i) (by
    unfold kind_l0_R
    refine g_iteD (fun h0 => ?_) (fun h0 => ?_)
    · refine g_need (by omega) ?_
      refine g_need (by omega) ?_
      refine g_iteND (fun h1 => ?_) (fun h1 => ?_)
      · refine g_need (i64_iff.2 (by omega)) ?_
        refine g_stop (RunN.keep [0] (false :: true :: true :: true :: F4 (true :: F32 (F32 (false :: [])))) n0 (by decide) rfl rfl ?_)
        have ht := kind_l0 t n v a (i + 1) (by omega) hl; rw [show (t.2.2.2.1.take a.toNat).drop i.toNat = t.2.2.2.1.getD i.toNat tIns.dflt :: (t.2.2.2.1.take a.toNat).drop (i + 1).toNat from by rw [dropCons (α := EIns) (Ty.dflt tIns) (by rw [List.length_take]; omega : i.toNat < (t.2.2.2.1.take a.toNat).length), show i.toNat + 1 = (i + 1).toNat by omega]; congr 1; simp only [List.getD_eq_getElem?_getD, List.getElem?_take]; rw [if_pos (by omega)], scanK]; simp only [h0, h1, if_true, if_false]; exact ht
      · refine g_iteD (fun h2 => ?_) (fun h2 => ?_)
        · exact g_reti (by first | (rw [List.drop_eq_nil_of_le (by rw [List.length_take]; omega)]; rfl) | (rw [show (t.2.2.2.1.take a.toNat).drop i.toNat = t.2.2.2.1.getD i.toNat tIns.dflt :: (t.2.2.2.1.take a.toNat).drop (i + 1).toNat from by rw [dropCons (α := EIns) (Ty.dflt tIns) (by rw [List.length_take]; omega : i.toNat < (t.2.2.2.1.take a.toNat).length), show i.toNat + 1 = (i + 1).toNat by omega]; congr 1; simp only [List.getD_eq_getElem?_getD, List.getElem?_take]; rw [if_pos (by omega)], scanK]; simp only [h0, h1, h2, if_true, if_false, Int.reduceEq, reduceIte]; done))
        · refine g_iteD (fun h3 => ?_) (fun h3 => ?_)
          · exact g_reti (by first | (rw [List.drop_eq_nil_of_le (by rw [List.length_take]; omega)]; rfl) | (rw [show (t.2.2.2.1.take a.toNat).drop i.toNat = t.2.2.2.1.getD i.toNat tIns.dflt :: (t.2.2.2.1.take a.toNat).drop (i + 1).toNat from by rw [dropCons (α := EIns) (Ty.dflt tIns) (by rw [List.length_take]; omega : i.toNat < (t.2.2.2.1.take a.toNat).length), show i.toNat + 1 = (i + 1).toNat by omega]; congr 1; simp only [List.getD_eq_getElem?_getD, List.getElem?_take]; rw [if_pos (by omega)], scanK]; simp only [h0, h1, h2, h3, if_true, if_false, Int.reduceEq, reduceIte]; done))
          · refine g_iteD (fun h4 => ?_) (fun h4 => ?_)
            · exact g_reti (by first | (rw [List.drop_eq_nil_of_le (by rw [List.length_take]; omega)]; rfl) | (rw [show (t.2.2.2.1.take a.toNat).drop i.toNat = t.2.2.2.1.getD i.toNat tIns.dflt :: (t.2.2.2.1.take a.toNat).drop (i + 1).toNat from by rw [dropCons (α := EIns) (Ty.dflt tIns) (by rw [List.length_take]; omega : i.toNat < (t.2.2.2.1.take a.toNat).length), show i.toNat + 1 = (i + 1).toNat by omega]; congr 1; simp only [List.getD_eq_getElem?_getD, List.getElem?_take]; rw [if_pos (by omega)], scanK]; simp only [h0, h1, h2, h3, h4, if_true, if_false, Int.reduceEq, reduceIte]; done))
            · refine g_need (i64_iff.2 (by omega)) ?_
              refine g_stop (RunN.keep [0] (false :: true :: true :: true :: F4 (true :: F32 (F32 (false :: [])))) n0 (by decide) rfl rfl ?_)
              have ht := kind_l0 t n v a (i + 1) (by omega) hl; rw [show (t.2.2.2.1.take a.toNat).drop i.toNat = t.2.2.2.1.getD i.toNat tIns.dflt :: (t.2.2.2.1.take a.toNat).drop (i + 1).toNat from by rw [dropCons (α := EIns) (Ty.dflt tIns) (by rw [List.length_take]; omega : i.toNat < (t.2.2.2.1.take a.toNat).length), show i.toNat + 1 = (i + 1).toNat by omega]; congr 1; simp only [List.getD_eq_getElem?_getD, List.getElem?_take]; rw [if_pos (by omega)], scanK]; simp only [h0, h1, h2, h3, h4, if_true, if_false]; exact ht
    · exact g_reti (by first | (rw [List.drop_eq_nil_of_le (by rw [List.length_take]; omega)]; rfl) | (rw [show (t.2.2.2.1.take a.toNat).drop i.toNat = t.2.2.2.1.getD i.toNat tIns.dflt :: (t.2.2.2.1.take a.toNat).drop (i + 1).toNat from by rw [dropCons (α := EIns) (Ty.dflt tIns) (by rw [List.length_take]; omega : i.toNat < (t.2.2.2.1.take a.toNat).length), show i.toNat + 1 = (i + 1).toNat by omega]; congr 1; simp only [List.getD_eq_getElem?_getD, List.getElem?_take]; rw [if_pos (by omega)], scanK]; simp only [h0, if_true, if_false, Int.reduceEq, reduceIte]; done))
    )
  termination_by (a - i).toNat
  decreasing_by all_goals omega
theorem kind_step (t : ETrace) (n : Nat) (v : Int) (a : Int) (hk : 0 ≤ v → v < a → a ≤ (t.2.2.2.1.length : Int) → ∀ b : Int, AFun Tryd.prog 21 [.agg (Ty.enc tTrace t), .c (.int .i64 b), .c (.int .i64 v)] (.c (.int .i64 (kindN t n b v)))) : AFun Tryd.prog 21 [.agg (tTrace.enc t), .c (.int .i64 v), .c (.int .i64 a)] (.c (.int .i64 (kindN t (n + 1) v a))) :=
  AFun.of (oc25 n) kind_lv 3000 Tryd.func21 mixed rfl (by decide) (Nat.le_of_ble_eq_true rfl) _ (kind_T_ok t n v a) fun hF => by
    have hl := hF.agg.1.2.2.2.1.1
    unfold kind_T
    refine g_iteD (fun h0 => ?_) (fun h0 => ?_)
    · exact g_reti (by first | (simp only [kindN, h0, if_true, if_false]; done) | (simp only [kindN, h0, if_true, if_false, Bool.false_eq_true, reduceCtorEq]; done) | (simp_all [kindN]; done))
    · refine g_iteD (fun h1 => ?_) (fun h1 => ?_)
      · exact g_reti (by first | (simp only [kindN, h0, h1, if_true, if_false]; done) | (simp only [kindN, h0, h1, if_true, if_false, Bool.false_eq_true, reduceCtorEq]; done) | (simp_all [kindN]; done))
      · refine g_iteD (fun h2 => ?_) (fun h2 => ?_)
        · exact g_reti (by first | (simp only [kindN, h0, h1, h2, if_true, if_false]; done) | (simp only [kindN, h0, h1, h2, if_true, if_false, Bool.false_eq_true, reduceCtorEq]; done) | (simp_all [kindN]; done))
        · refine g_need (by omega) ?_
          refine g_need (by omega) ?_
          refine g_call (tells_fun (t.2.2.2.1.getD (Int.toNat v) tIns.dflt).1) (fun h => nomatch h) ?_
          refine g_iteN (fun h3 => ?_) (fun h3 => ?_)
          · exact g_reti (by first | (simp only [kindN, h0, h1, h2, h3, if_true, if_false]; done) | (simp only [kindN, h0, h1, h2, h3, if_true, if_false, Bool.false_eq_true, reduceCtorEq]; done) | (simp_all [kindN]; done))
          · refine g_call (own_fun t n v (hk (by omega) (by omega) (by omega)) (by omega)) (fun h => nomatch h) ?_
            refine g_iteD (fun h4 => ?_) (fun h4 => ?_)
            · exact g_reti (by first | (simp only [kindN, h0, h1, h2, h3, h4, if_true, if_false]; done) | (simp only [kindN, h0, h1, h2, h3, h4, if_true, if_false, Bool.false_eq_true, reduceCtorEq]; done) | (simp_all [kindN]; done))
            · refine g_need (i64_iff.2 (by omega)) ?_
              refine g_stop (RunN.keep [0] (false :: true :: true :: true :: F4 (true :: F32 (F32 (false :: [])))) n0 (by decide) rfl rfl ?_)
              have ht := kind_l0 t n v a (v + 1) (by omega) hl; simp only [kindN, h0, h1, h2, h3, h4, if_true, if_false, Bool.true_eq_false, Bool.false_eq_true]; exact ht

theorem kindN_more (t : ETrace) : ∀ (n m : Nat) (v a : Int), a.toNat < n → a.toNat < m → kindN t n v a = kindN t m v a
  | 0, _, _, _, h, _ => absurd h (Nat.not_lt_zero _)
  | _ + 1, 0, _, _, _, h => absurd h (Nat.not_lt_zero _)
  | n + 1, m + 1, v, a, h, h' => by
    by_cases h1 : v < 0
    · simp only [kindN, h1, if_true]
    · by_cases h2 : a ≤ v
      · simp only [kindN, h1, h2, if_true, if_false]
      · have e : (fun b => kindN t n b v) = (fun b => kindN t m b v) := funext fun b => kindN_more t n m b v (by omega) (by omega)
        simp only [kindN, e]
def kindF (t : ETrace) (v a : Int) : Int := kindN t (a.toNat + 1) v a
theorem kind_all (t : ETrace) : ∀ (n : Nat) (v a : Int), a.toNat < n → AFun Tryd.prog 21 [.agg (Ty.enc tTrace t), .c (.int .i64 v), .c (.int .i64 a)] (.c (.int .i64 (kindN t n v a)))
  | 0, _, _, h => absurd h (Nat.not_lt_zero _)
  | n + 1, v, a, h => kind_step t n v a fun h0 h1 _ b => kind_all t n b v (by omega)
theorem kind_fun (t : ETrace) (v a : Int) : AFun Tryd.prog 21 [.agg (Ty.enc tTrace t), .c (.int .i64 v), .c (.int .i64 a)] (.c (.int .i64 (kindF t v a))) := kind_all t _ v a (by omega)
end Go.Proofs.YtefkifdhjabdiaaDoor
namespace Go.Proofs.YtefkifdhjabdiaaDoor
set_option linter.unusedVariables false
set_option linter.unusedSimpArgs false
def insV (t : ETrace) (v : Int) : EIns := t.2.2.2.1.getD v.toNat tIns.dflt
def intsF (t : ETrace) (i : Int) : Bool := if kindF t (insV t i).2.1 i = 2 then decide (kindF t (insV t i).2.2.1 i = 2) else false
def min2 (a b : Int) : Int := if b < a then b else a
def max2 (a b : Int) : Int := if b > a then b else a
def minL : Int → List Int → Int
  | m, [] => m
  | m, x :: r => minL (min2 m x) r
def maxL : Int → List Int → Int
  | m, [] => m
  | m, x :: r => maxL (max2 m x) r
def recB (n : Int) (a b : EVal) : EVal × Bool :=
  if n = 3 then ((a.1 + b.1, a.2 + b.2), true) else if n = 4 then ((a.1 - b.2, a.2 - b.1), true)
  else if n = 5 then ((minL (a.1 * b.1) [a.1 * b.2, a.2 * b.1, a.2 * b.2], maxL (a.1 * b.1) [a.1 * b.2, a.2 * b.1, a.2 * b.2]), true) else ((0, 0), false)
abbrev allB : EVal := (-2147483648, 2147483647)
section
variable {M : Type} (rec : Int → Int → M → EVal × M) (t : ETrace)
def reckM (i : Int) (m : M) : (EVal × Bool) × M :=
  (recB (insV t i).2.2.2.2.1 (rec (insV t i).2.1 i m).1 (rec (insV t i).2.2.1 i (rec (insV t i).2.1 i m).2).1, (rec (insV t i).2.2.1 i (rec (insV t i).2.1 i m).2).2)
def modB (b a : EVal) : EVal := if 0 ≤ a.1 then (0, b.2 - 1) else (0 - (b.2 - 1), b.2 - 1)
def modM (v : Int) (m : M) : EVal × M :=
  if (insV t v).2.2.2.2.1 = 7 then (if 1 ≤ (rec (insV t v).2.2.1 v m).1.1 then (modB (rec (insV t v).2.2.1 v m).1 (rec (insV t v).2.1 v (rec (insV t v).2.2.1 v m).2).1, (rec (insV t v).2.1 v (rec (insV t v).2.2.1 v m).2).2) else (allB, (rec (insV t v).2.2.1 v m).2))
  else (allB, (rec (insV t v).2.2.1 v m).2)
def itselfM (v : Int) (m : M) : EVal × M :=
  if (insV t v).1 = 2 ∧ (insV t v).2.2.2.2.2.2.1 = 2 then (((insV t v).2.2.2.2.2.2.2, (insV t v).2.2.2.2.2.2.2), m)
  else if (insV t v).1 = 15 then ((0, 600), m)
  else if (insV t v).1 ≠ 7 then (allB, m)
  else if intsF t v = false then (allB, m)
  else if (reckM rec t v m).1.2 = true then ((cutN (reckM rec t v m).1.1.1, cutN (reckM rec t v m).1.1.2), (reckM rec t v m).2)
  else modM rec t v (reckM rec t v m).2
def hiB (s : EVal) (h : Int) : EVal := if s.1 ≤ min2 s.2 h then (s.1, min2 s.2 h) else s
def loB (s : EVal) (l : Int) : EVal := if max2 s.1 l ≤ s.2 then (max2 s.1 l, s.2) else s
def narHi (s : EVal) (v a b d at_ : Int) (m : M) : EVal × M := if v = a then (hiB s ((rec b at_ m).1.2 - d), (rec b at_ m).2) else (s, m)
def narLo (s : EVal) (v a b d at_ : Int) (m : M) : EVal × M := if v = b then (loB s ((rec a at_ m).1.1 + d), (rec a at_ m).2) else (s, m)
def narM (s : EVal) (v a b d at_ : Int) (m : M) : EVal × M := narLo rec (narHi rec s v a b d at_ m).1 v a b d at_ (narHi rec s v a b d at_ m).2
def guardOf (v i : Int) : Prop := (insV t i).1 = 5 ∧ (insV t (insV t i).2.1).1 = 7 ∧ ((insV t (insV t i).2.1).2.2.2.2.1 = 9 ∨ (insV t (insV t i).2.1).2.2.2.2.1 = 10) ∧ ((insV t (insV t i).2.1).2.1 = v ∨ (insV t (insV t i).2.1).2.2.1 = v) ∧ intsF t (insV t i).2.1 = true
instance (v i : Int) : Decidable (guardOf t v i) := by unfold guardOf; infer_instance
def lessI (t : ETrace) (i : Int) : Int := if (insV t (insV t i).2.1).2.2.2.2.1 = 9 then 1 else 0
def stepM (v : Int) (i : Int) (s : EVal) (m : M) : EVal × M :=
  if guardOf t v i then (if (insV t i).2.2.2.2.1 = 1 then narM rec s v (insV t (insV t i).2.1).2.1 (insV t (insV t i).2.1).2.2.1 (lessI t i) i m else narM rec s v (insV t (insV t i).2.1).2.2.1 (insV t (insV t i).2.1).2.1 (1 - lessI t i) i m) else (s, m)
def loopM (v : Int) : Nat → Int → EVal → M → EVal × M
  | 0, _, s, m => (s, m)
  | k + 1, i, s, m => loopM v k (i + 1) (stepM rec t v i s m).1 (stepM rec t v i s m).2
def bodyM (v at_ : Int) (m : M) : EVal × M := loopM rec t v (at_ - (v + 1)).toNat (v + 1) (itselfM rec t v m).1 (itselfM rec t v m).2
end
/-- Without what is kept. -/
def spanP (t : ETrace) : Nat → Int → Int → EVal
  | 0, _, _ => (0, 0)
  | n + 1, v, a => (bodyM (fun v a (m : Unit) => (spanP t n v a, m)) t v a ()).1
abbrev EMem := Nat × (EVal → Option EVal)
def spanM (t : ETrace) : Nat → Int → Int → EMem → EVal × EMem
  | 0, _, _, m => ((0, 0), m)
  | n + 1, v, a, m => match m.2 (v, a) with
    | some s => (s, m)
    | none => ((bodyM (spanM t n) t v a m).1, ((bodyM (spanM t n) t v a m).2.1 + 1, updM (kt := tVal) (bodyM (spanM t n) t v a m).2.2 (v, a) (bodyM (spanM t n) t v a m).1))
/-- What operands a trace's spans go to. -/
structure DomT (t : ETrace) : Prop where
  bin : ∀ i : Int, 0 ≤ i → i < (t.2.2.2.1.length : Int) → (insV t i).1 = 7 → 0 ≤ (insV t i).2.1 ∧ (insV t i).2.1 < i ∧ 0 ≤ (insV t i).2.2.1 ∧ (insV t i).2.2.1 < i
  tru : ∀ i : Int, 0 ≤ i → i < (t.2.2.2.1.length : Int) → (insV t i).1 = 5 → 0 ≤ (insV t i).2.1 ∧ (insV t i).2.1 < i
structure SameX (t u : ETrace) : Prop where
  len : t.2.2.2.1.length = u.2.2.2.1.length
  op : ∀ v, (insV t v).1 = (insV u v).1
  a : ∀ v, (insV t v).2.1 = (insV u v).2.1
  b : ∀ v, (insV t v).2.2.1 = (insV u v).2.2.1
  n : ∀ v, (insV t v).2.2.2.2.1 = (insV u v).2.2.2.2.1
  k : ∀ v, (insV t v).2.2.2.2.2.2 = (insV u v).2.2.2.2.2.2
  kind : ∀ v a, kindF t v a = kindF u v a
theorem SameX.refl (t : ETrace) : SameX t t := ⟨rfl, fun _ => rfl, fun _ => rfl, fun _ => rfl, fun _ => rfl, fun _ => rfl, fun _ _ => rfl⟩
theorem SameX.ints {t u : ETrace} (h : SameX t u) (i : Int) : intsF t i = intsF u i := by unfold intsF; rw [h.a, h.b, h.kind, h.kind]
section
variable {M M' : Type} (V : M → M' → Prop)
/-- Two recursions that answer alike below a place. -/
def RelM (bd : Int) (rec : Int → Int → M → EVal × M) (rec' : Int → Int → M' → EVal × M') : Prop :=
  ∀ (v a : Int) (m : M) (m' : M'), 0 ≤ v → v < a → a < bd → V m m' → (rec v a m).1 = (rec' v a m').1 ∧ V (rec v a m).2 (rec' v a m').2
variable {V} {t u : ETrace} {bd : Int} {rec : Int → Int → M → EVal × M} {rec' : Int → Int → M' → EVal × M'} (hs : SameX t u) (hd : DomT t) (hr : RelM V bd rec rec')
include hs hd hr
theorem reckM_rel {v : Int} {m : M} {m' : M'} (h0 : 0 ≤ v) (hv : v < bd) (hl : v < (t.2.2.2.1.length : Int)) (ho : (insV t v).1 = 7) (hm : V m m') : (reckM rec t v m).1 = (reckM rec' u v m').1 ∧ V (reckM rec t v m).2 (reckM rec' u v m').2 := by
  obtain ⟨a0, a1, b0, b1⟩ := hd.bin v h0 hl ho
  obtain ⟨e1, v1⟩ := hr _ v m m' a0 a1 hv hm
  obtain ⟨e2, v2⟩ := hr _ v _ _ b0 b1 hv v1
  unfold reckM
  rw [← hs.a, ← hs.b, ← hs.n, e1, e2]
  exact ⟨rfl, v2⟩
theorem modM_rel {v : Int} {m : M} {m' : M'} (h0 : 0 ≤ v) (hv : v < bd) (hl : v < (t.2.2.2.1.length : Int)) (ho : (insV t v).1 = 7) (hm : V m m') : (modM rec t v m).1 = (modM rec' u v m').1 ∧ V (modM rec t v m).2 (modM rec' u v m').2 := by
  obtain ⟨a0, a1, b0, b1⟩ := hd.bin v h0 hl ho
  obtain ⟨e1, v1⟩ := hr _ v m m' b0 b1 hv hm
  obtain ⟨e2, v2⟩ := hr _ v _ _ a0 a1 hv v1
  unfold modM
  rw [← hs.a, ← hs.b, ← hs.n]
  split
  · rw [e1]
    split
    · rw [e2]; exact ⟨rfl, v2⟩
    · exact ⟨rfl, v1⟩
  · exact ⟨rfl, v1⟩
theorem itselfM_rel {v : Int} {m : M} {m' : M'} (h0 : 0 ≤ v) (hv : v < bd) (hl : v < (t.2.2.2.1.length : Int)) (hm : V m m') : (itselfM rec t v m).1 = (itselfM rec' u v m').1 ∧ V (itselfM rec t v m).2 (itselfM rec' u v m').2 := by
  unfold itselfM
  rw [← hs.op, ← hs.k, ← hs.ints]
  split
  · exact ⟨rfl, hm⟩
  · split
    · exact ⟨rfl, hm⟩
    · split
      · exact ⟨rfl, hm⟩
      · rename_i ho
        have ho : (insV t v).1 = 7 := Decidable.not_not.1 ho
        obtain ⟨e1, v1⟩ := reckM_rel hs hd hr h0 hv hl ho hm
        split
        · exact ⟨rfl, hm⟩
        · rw [e1]
          split
          · exact ⟨rfl, v1⟩
          · exact modM_rel hs hd hr h0 hv hl ho v1
omit hs hd in
theorem narM_rel {s : EVal} {v a b d i : Int} {m : M} {m' : M'} (ha : 0 ≤ a ∧ a < i) (hb : 0 ≤ b ∧ b < i) (hi : i < bd) (hm : V m m') : (narM rec s v a b d i m).1 = (narM rec' s v a b d i m').1 ∧ V (narM rec s v a b d i m).2 (narM rec' s v a b d i m').2 := by
  have k1 : (narHi rec s v a b d i m).1 = (narHi rec' s v a b d i m').1 ∧ V (narHi rec s v a b d i m).2 (narHi rec' s v a b d i m').2 := by
    unfold narHi
    obtain ⟨e1, v1⟩ := hr _ i m m' hb.1 hb.2 hi hm
    split
    · rw [e1]; exact ⟨rfl, v1⟩
    · exact ⟨rfl, hm⟩
  unfold narM
  rw [k1.1]
  unfold narLo
  obtain ⟨e1, v1⟩ := hr _ i _ _ ha.1 ha.2 hi k1.2
  split
  · rw [e1]; exact ⟨rfl, v1⟩
  · exact ⟨rfl, k1.2⟩
theorem stepM_rel {s : EVal} {v i : Int} {m : M} {m' : M'} (h0 : 0 ≤ i) (hi : i < bd) (hl : i < (t.2.2.2.1.length : Int)) (hm : V m m') : (stepM rec t v i s m).1 = (stepM rec' u v i s m').1 ∧ V (stepM rec t v i s m).2 (stepM rec' u v i s m').2 := by
  have eg : guardOf t v i = guardOf u v i := by unfold guardOf; rw [hs.op, hs.a, hs.op, hs.n, hs.a (insV u i).2.1, hs.b, hs.ints]
  have el : lessI t i = lessI u i := by unfold lessI; rw [hs.a, hs.n]
  unfold stepM
  by_cases hg : guardOf t v i
  · have hg' : guardOf u v i := eg ▸ hg
    rw [if_pos hg, if_pos hg']
    obtain ⟨g1, g2, _⟩ := hg
    obtain ⟨q0, q1⟩ := hd.tru i h0 hl g1
    obtain ⟨a0, a1, b0, b1⟩ := hd.bin _ q0 (by omega) g2
    rw [← hs.n i, ← el, ← hs.a i, ← hs.a (insV t i).2.1, ← hs.b (insV t i).2.1]
    split
    · exact narM_rel hr ⟨a0, by omega⟩ ⟨b0, by omega⟩ hi hm
    · exact narM_rel hr ⟨b0, by omega⟩ ⟨a0, by omega⟩ hi hm
  · have hg' : ¬ guardOf u v i := eg ▸ hg
    rw [if_neg hg, if_neg hg']
    exact ⟨rfl, hm⟩
theorem loopM_rel {v : Int} : ∀ (k : Nat) {s : EVal} {i : Int} {m : M} {m' : M'}, 0 ≤ i → i + k ≤ bd → i + k ≤ (t.2.2.2.1.length : Int) → V m m' → (loopM rec t v k i s m).1 = (loopM rec' u v k i s m').1 ∧ V (loopM rec t v k i s m).2 (loopM rec' u v k i s m').2
  | 0, s, i, m, m', _, _, _, hm => ⟨rfl, hm⟩
  | k + 1, s, i, m, m', h0, hi, hl, hm => by
    obtain ⟨e1, v1⟩ := stepM_rel hs hd hr (s := s) (v := v) h0 (by omega) (by omega) hm
    unfold loopM
    rw [e1]
    exact loopM_rel k (by omega) (by omega) (by omega) v1
theorem bodyM_rel {v a : Int} {m : M} {m' : M'} (h0 : 0 ≤ v) (hv : v < a) (ha : a ≤ bd) (hl : a ≤ (t.2.2.2.1.length : Int)) (hm : V m m') : (bodyM rec t v a m).1 = (bodyM rec' u v a m').1 ∧ V (bodyM rec t v a m).2 (bodyM rec' u v a m').2 := by
  obtain ⟨e1, v1⟩ := itselfM_rel hs hd hr (v := v) h0 (by omega) (by omega) hm
  unfold bodyM
  rw [e1]
  exact loopM_rel hs hd hr _ (by omega) (by omega) (by omega) v1
end
theorem spanP_more {t u : ETrace} (hs : SameX t u) (hd : DomT t) : ∀ (n n' : Nat) (v a : Int), a.toNat < n → a.toNat < n' → 0 ≤ v → v < a → a ≤ (t.2.2.2.1.length : Int) → spanP t n v a = spanP u n' v a
  | 0, _, _, _, h, _, _, _, _ => absurd h (Nat.not_lt_zero _)
  | _ + 1, 0, _, _, _, h, _, _, _ => absurd h (Nat.not_lt_zero _)
  | n + 1, n' + 1, v, a, h, h', h0, hv, hl => (bodyM_rel (V := fun (_ _ : Unit) => True) (bd := a) hs hd (rec := fun v a (m : Unit) => (spanP t n v a, m)) (rec' := fun v a (m : Unit) => (spanP u n' v a, m)) (fun v' a' _ _ q0 q1 q2 _ => ⟨spanP_more hs hd n n' v' a' (by omega) (by omega) q0 q1 (by omega), trivial⟩) h0 hv (Int.le_refl _) hl (m := ()) (m' := ()) trivial).1
def spanF (t : ETrace) (v a : Int) : EVal := spanP t (a.toNat + 1) v a
/-! what is kept -/
def cntM (N : Nat) (f : EVal → Option EVal) : Nat := ((List.range N).flatMap fun v => (List.range (N + 1)).map fun a => (((v : Nat) : Int), ((a : Nat) : Int))).countP fun k => (f k).isSome
theorem countP_less {α : Type} {p q : α → Bool} : ∀ {l : List α}, (∀ x ∈ l, p x = true → q x = true) → ∀ {y : α}, y ∈ l → p y = false → q y = true → l.countP p + 1 ≤ l.countP q
  | [], _, y, h, _, _ => by cases h
  | x :: l, hpq, y, h, h1, h2 => by
    have hl : l.countP p ≤ l.countP q := List.countP_mono_left fun z hz => hpq z (List.mem_cons_of_mem _ hz)
    rw [List.countP_cons, List.countP_cons]
    rcases List.mem_cons.1 h with rfl | h
    · rw [h1, h2]; simp; omega
    · have := countP_less (fun z hz => hpq z (List.mem_cons_of_mem _ hz)) h h1 h2
      have h3 := hpq x (List.mem_cons_self ..)
      cases hp : p x with
      | false => simp; omega
      | true => rw [h3 hp]; simp; omega
theorem cntM_le (N : Nat) (f : EVal → Option EVal) : cntM N f ≤ N * (N + 1) := by
  refine Nat.le_trans (List.countP_le_length ..) ?_
  have h : ∀ k, ((List.range k).map fun _ => N + 1).sum = k * (N + 1) := fun k => by
    induction k with
    | zero => simp
    | succ k ih => rw [List.range_succ, List.map_append, List.sum_append, ih, Nat.succ_mul]; simp
  rw [List.length_flatMap]
  simp only [List.length_map, List.length_range]
  exact Nat.le_of_eq (h N)
theorem cntM_put {N : Nat} {f : EVal → Option EVal} {v a : Int} {s : EVal} (hv : 0 ≤ v ∧ v < (N : Int)) (ha : 0 ≤ a ∧ a ≤ (N : Int)) (hf : f (v, a) = none) : cntM N f + 1 ≤ cntM N (updM (kt := tVal) f (v, a) s) := by
  refine countP_less (y := (v, a)) (fun x _ h => ?_) ?_ (by rw [hf]; rfl) (by unfold updM; rw [if_pos rfl]; rfl)
  · unfold updM
    split
    · rfl
    · exact h
  · refine List.mem_flatMap.2 ⟨v.toNat, List.mem_range.2 (by omega), List.mem_map.2 ⟨a.toNat, List.mem_range.2 (by omega), ?_⟩⟩
    rw [Int.toNat_of_nonneg hv.1, Int.toNat_of_nonneg ha.1]
structure KeptOk (t : ETrace) (m : EMem) : Prop where
  so : ∀ v a s, m.2 (v, a) = some s → s = spanF t v a
  cnt : m.1 ≤ cntM t.2.2.2.1.length m.2
theorem KeptOk.less {t : ETrace} {m : EMem} (h : KeptOk t m) : m.1 ≤ t.2.2.2.1.length * (t.2.2.2.1.length + 1) := Nat.le_trans h.cnt (cntM_le _ _)
/-- Nothing is kept at a place that is later. -/
def Below (a : Int) (m m2 : EMem) : Prop := ∀ v b, a ≤ b → m2.2 (v, b) = m.2 (v, b)
theorem spanM_ok {t : ETrace} (hd : DomT t) : ∀ (n : Nat) (v a : Int) (m : EMem), a.toNat < n → 0 ≤ v → v < a → a ≤ (t.2.2.2.1.length : Int) → KeptOk t m → (spanM t n v a m).1 = spanF t v a ∧ KeptOk t (spanM t n v a m).2 ∧ Below (a + 1) m (spanM t n v a m).2
  | 0, _, _, _, h, _, _, _, _ => absurd h (Nat.not_lt_zero _)
  | n + 1, v, a, m, h, h0, hv, hl, hm => by
    unfold spanM
    cases hq : m.2 (v, a) with
    | some s => exact ⟨hm.so v a s hq, hm, fun _ _ _ => rfl⟩
    | none =>
      obtain ⟨e, ⟨k1, k2⟩⟩ := bodyM_rel (V := fun (x : EMem) (_ : Unit) => KeptOk t x ∧ Below a m x) (bd := a) (SameX.refl t) hd (rec := spanM t n) (rec' := fun v a (m : Unit) => (spanP t a.toNat.succ v a, m)) (fun v' a' x _ q0 q1 q2 ⟨x1, x2⟩ => by
        obtain ⟨w1, w2, w3⟩ := spanM_ok hd n v' a' x (by omega) q0 q1 (by omega) x1
        exact ⟨w1, w2, fun y b hb => (w3 y b (by omega)).trans (x2 y b hb)⟩) h0 hv (Int.le_refl _) hl (m := m) (m' := ()) ⟨hm, fun _ _ _ => rfl⟩
      have e2 : (bodyM (spanM t n) t v a m).1 = spanF t v a := e.trans (bodyM_rel (V := fun (_ _ : Unit) => True) (bd := a) (SameX.refl t) hd (rec := fun v a (m : Unit) => (spanP t a.toNat.succ v a, m)) (rec' := fun v a' (m : Unit) => (spanP t a.toNat v a', m)) (fun v' a' _ _ q0 q1 q2 _ => ⟨spanP_more (SameX.refl t) hd _ _ v' a' (by omega) (by omega) q0 q1 (by omega), trivial⟩) h0 hv (Int.le_refl _) hl (m := ()) (m' := ()) trivial).1
      refine ⟨e2, ⟨fun v' a' s hs => ?_, ?_⟩, fun y b hb => ?_⟩
      · simp only [updM] at hs
        split at hs
        · rename_i he
          injection hs with hs
          injection he with h1 h2
          rw [← hs, e2, h1, h2]
        · exact k1.so v' a' s hs
      · have hn : (bodyM (spanM t n) t v a m).2.2 (v, a) = none := by rw [k2 v a (Int.le_refl _)]; exact hq
        exact Nat.le_trans (Nat.succ_le_succ k1.cnt) (cntM_put ⟨h0, by omega⟩ ⟨by omega, hl⟩ hn)
      · simp only [updM]
        rw [if_neg (by intro he; injection he with h1 h2; omega)]
        exact k2 y b (by omega)
end Go.Proofs.YtefkifdhjabdiaaDoor
namespace Go.Proofs.YtefkifdhjabdiaaDoor
set_option linter.unusedVariables false
set_option linter.unusedSimpArgs false
def InB (s : EVal) : Prop := -2147483648 ≤ s.1 ∧ s.1 ≤ s.2 ∧ s.2 ≤ 2147483647
theorem cutN_in (n : Int) : -2147483648 ≤ cutN n ∧ cutN n ≤ 2147483647 := by
  unfold cutN
  repeat' split
  all_goals omega
theorem cutN_mono {a b : Int} (h : a ≤ b) : cutN a ≤ cutN b := by
  unfold cutN
  repeat' split
  all_goals omega
theorem min2_le (a b : Int) : min2 a b ≤ a ∧ min2 a b ≤ b := by unfold min2; split <;> omega
theorem max2_le (a b : Int) : a ≤ max2 a b ∧ b ≤ max2 a b := by unfold max2; split <;> omega
theorem min2_or (a b : Int) : min2 a b = a ∨ min2 a b = b := by unfold min2; split <;> simp
theorem max2_or (a b : Int) : max2 a b = a ∨ max2 a b = b := by unfold max2; split <;> simp
theorem minL_le : ∀ (l : List Int) (m : Int), minL m l ≤ m
  | [], m => Int.le_refl _
  | x :: r, m => Int.le_trans (minL_le r _) (min2_le m x).1
theorem maxL_le : ∀ (l : List Int) (m : Int), m ≤ maxL m l
  | [], m => Int.le_refl _
  | x :: r, m => Int.le_trans (max2_le m x).1 (maxL_le r _)
theorem minL_mem : ∀ (l : List Int) (m : Int), minL m l ∈ m :: l
  | [], m => by simp [minL]
  | x :: r, m => by
    have := minL_mem r (min2 m x)
    unfold minL
    rcases List.mem_cons.1 this with h | h
    · rw [h]; rcases min2_or m x with e | e <;> simp [e]
    · exact List.mem_cons_of_mem _ (List.mem_cons_of_mem _ h)
theorem maxL_mem : ∀ (l : List Int) (m : Int), maxL m l ∈ m :: l
  | [], m => by simp [maxL]
  | x :: r, m => by
    have := maxL_mem r (max2 m x)
    unfold maxL
    rcases List.mem_cons.1 this with h | h
    · rw [h]; rcases max2_or m x with e | e <;> simp [e]
    · exact List.mem_cons_of_mem _ (List.mem_cons_of_mem _ h)
theorem mul_in {a b : Int} (ha : -2147483648 ≤ a ∧ a ≤ 2147483648) (hb : -2147483648 ≤ b ∧ b ≤ 2147483648) : -4611686018427387904 ≤ a * b ∧ a * b ≤ 4611686018427387904 := by
  have h : (a * b).natAbs ≤ 2147483648 * 2147483648 := by
    rw [Int.natAbs_mul]
    exact Nat.mul_le_mul (by omega) (by omega)
  omega
theorem recB_in {n : Int} {a b : EVal} (ha : InB a) (hb : InB b) : (recB n a b).1.1 ≤ (recB n a b).1.2 ∧ -4611686018427387904 ≤ (recB n a b).1.1 ∧ (recB n a b).1.2 ≤ 4611686018427387904 := by
  unfold InB at ha hb
  unfold recB
  split
  · simp only; omega
  · split
    · simp only; omega
    · split
      · have h1 := mul_in (a := a.1) (b := b.1) (by omega) (by omega)
        have h2 := mul_in (a := a.1) (b := b.2) (by omega) (by omega)
        have h3 := mul_in (a := a.2) (b := b.1) (by omega) (by omega)
        have h4 := mul_in (a := a.2) (b := b.2) (by omega) (by omega)
        refine ⟨Int.le_trans (minL_le _ _) (maxL_le _ _), show -4611686018427387904 ≤ minL (a.1 * b.1) [a.1 * b.2, a.2 * b.1, a.2 * b.2] from ?_, show maxL (a.1 * b.1) [a.1 * b.2, a.2 * b.1, a.2 * b.2] ≤ 4611686018427387904 from ?_⟩
        · have := minL_mem [a.1 * b.2, a.2 * b.1, a.2 * b.2] (a.1 * b.1)
          simp only [List.mem_cons, List.not_mem_nil, or_false] at this
          rcases this with e | e | e | e <;> rw [e] <;> omega
        · have := maxL_mem [a.1 * b.2, a.2 * b.1, a.2 * b.2] (a.1 * b.1)
          simp only [List.mem_cons, List.not_mem_nil, or_false] at this
          rcases this with e | e | e | e <;> rw [e] <;> omega
      · decide
theorem hiB_in {s : EVal} (h : InB s) (q : Int) : InB (hiB s q) ∧ s.1 ≤ (hiB s q).1 ∧ (hiB s q).2 ≤ s.2 := by
  unfold hiB InB at *
  have := min2_le s.2 q
  split
  · simp only; omega
  · omega
theorem loB_in {s : EVal} (h : InB s) (q : Int) : InB (loB s q) ∧ s.1 ≤ (loB s q).1 ∧ (loB s q).2 ≤ s.2 := by
  unfold loB InB at *
  have := max2_le s.1 q
  split
  · simp only; omega
  · omega
theorem modB_in {a b : EVal} (ha : InB a) (hb : InB b) (h : 1 ≤ b.1) : InB (modB b a) := by
  unfold modB InB at *
  split
  · simp only; omega
  · simp only; omega
theorem allB_in : InB allB := ⟨by decide, by decide, by decide⟩
theorem cntB_in : InB (0, 600) := ⟨by decide, by decide, by decide⟩
structure DomC (t : ETrace) : Prop extends DomT t where
  con : ∀ i : Int, 0 ≤ i → i < (t.2.2.2.1.length : Int) → (insV t i).1 = 2 → (insV t i).2.2.2.2.2.2.1 = 2 → -2147483648 ≤ (insV t i).2.2.2.2.2.2.2 ∧ (insV t i).2.2.2.2.2.2.2 ≤ 2147483647
section
variable {M : Type} {t : ETrace} {bd : Int} {rec : Int → Int → M → EVal × M}
def RecIn (bd : Int) (rec : Int → Int → M → EVal × M) (V : M → Prop) : Prop := ∀ (v a : Int) (m : M), 0 ≤ v → v < a → a < bd → V m → InB (rec v a m).1 ∧ V (rec v a m).2
variable {V : M → Prop} (hd : DomC t) (hr : RecIn bd rec V)
include hd hr
theorem itselfM_in {v : Int} {m : M} (h0 : 0 ≤ v) (hv : v < bd) (hl : v < (t.2.2.2.1.length : Int)) (hm : V m) : InB (itselfM rec t v m).1 := by
  unfold itselfM
  split
  · rename_i h
    have := hd.con v h0 hl h.1 h.2
    unfold InB
    simp only
    omega
  · split
    · exact cntB_in
    · split
      · exact allB_in
      · rename_i ho
        have ho : (insV t v).1 = 7 := Decidable.not_not.1 ho
        obtain ⟨a0, a1, b0, b1⟩ := hd.bin v h0 hl ho
        obtain ⟨i1, v1⟩ := hr _ v m a0 a1 hv hm
        obtain ⟨i2, v2⟩ := hr _ v _ b0 b1 hv v1
        split
        · exact allB_in
        · split
          · have := recB_in (n := (insV t v).2.2.2.2.1) i1 i2
            exact ⟨(cutN_in _).1, cutN_mono this.1, (cutN_in _).2⟩
          · unfold modM
            split
            · obtain ⟨j1, w1⟩ := hr _ v (reckM rec t v m).2 b0 b1 hv v2
              obtain ⟨j2, w2⟩ := hr _ v _ a0 a1 hv w1
              split
              · exact modB_in j2 j1 (by assumption)
              · exact allB_in
            · exact allB_in
omit hd hr in
theorem narM_in {s : EVal} (hs : InB s) (v a b d i : Int) (m : M) : InB (narM rec s v a b d i m).1 ∧ s.1 ≤ (narM rec s v a b d i m).1.1 ∧ (narM rec s v a b d i m).1.2 ≤ s.2 := by
  have k1 : InB (narHi rec s v a b d i m).1 ∧ s.1 ≤ (narHi rec s v a b d i m).1.1 ∧ (narHi rec s v a b d i m).1.2 ≤ s.2 := by
    unfold narHi
    split
    · exact hiB_in hs _
    · exact ⟨hs, Int.le_refl _, Int.le_refl _⟩
  unfold narM narLo
  split
  · have := loB_in k1.1 ((rec a i (narHi rec s v a b d i m).2).1.1 + d)
    exact ⟨this.1, Int.le_trans k1.2.1 this.2.1, Int.le_trans this.2.2 k1.2.2⟩
  · exact k1
omit hd hr in
theorem stepM_in {s : EVal} (hs : InB s) (v i : Int) (m : M) : InB (stepM rec t v i s m).1 ∧ s.1 ≤ (stepM rec t v i s m).1.1 ∧ (stepM rec t v i s m).1.2 ≤ s.2 := by
  unfold stepM
  split
  · split <;> exact narM_in hs ..
  · exact ⟨hs, Int.le_refl _, Int.le_refl _⟩
omit hd hr in
theorem loopM_in {v : Int} : ∀ (k : Nat) {s : EVal} (hs : InB s) (i : Int) (m : M), InB (loopM rec t v k i s m).1 ∧ s.1 ≤ (loopM rec t v k i s m).1.1 ∧ (loopM rec t v k i s m).1.2 ≤ s.2
  | 0, s, hs, i, m => ⟨hs, Int.le_refl _, Int.le_refl _⟩
  | k + 1, s, hs, i, m => by
    have h1 := stepM_in (rec := rec) (t := t) hs v i m
    have h2 := loopM_in (v := v) k h1.1 (i + 1) (stepM rec t v i s m).2
    exact ⟨h2.1, Int.le_trans h1.2.1 h2.2.1, Int.le_trans h2.2.2 h1.2.2⟩
theorem bodyM_in {v a : Int} {m : M} (h0 : 0 ≤ v) (hv : v < a) (ha : a ≤ bd) (hl : a ≤ (t.2.2.2.1.length : Int)) (hm : V m) : InB (bodyM rec t v a m).1 :=
  (loopM_in _ (itselfM_in hd hr h0 (by omega) (by omega) hm) _ _).1
end
theorem spanP_in {t : ETrace} (hd : DomC t) : ∀ (n : Nat) (v a : Int), a.toNat < n → 0 ≤ v → v < a → a ≤ (t.2.2.2.1.length : Int) → InB (spanP t n v a)
  | 0, _, _, h, _, _, _ => absurd h (Nat.not_lt_zero _)
  | n + 1, v, a, h, h0, hv, hl => bodyM_in (V := fun _ => True) (bd := a) hd (fun v' a' _ q0 q1 q2 _ => ⟨spanP_in hd n v' a' (by omega) q0 q1 (by omega), trivial⟩) h0 hv (Int.le_refl _) hl trivial
theorem spanF_in {t : ETrace} (hd : DomC t) {v a : Int} (h0 : 0 ≤ v) (hv : v < a) (hl : a ≤ (t.2.2.2.1.length : Int)) : InB (spanF t v a) := spanP_in hd _ v a (by omega) h0 hv hl
theorem loopM_split {M : Type} {t : ETrace} {rec : Int → Int → M → EVal × M} {v : Int} : ∀ (k j : Nat) (i : Int) (s : EVal) (m : M), loopM rec t v (k + j) i s m = loopM rec t v j (i + k) (loopM rec t v k i s m).1 (loopM rec t v k i s m).2
  | 0, j, i, s, m => by simp [loopM]
  | k + 1, j, i, s, m => by
    rw [show k + 1 + j = (k + j) + 1 by omega]
    rw [show i + ((k + 1 : Nat) : Int) = i + 1 + (k : Int) by omega]
    show loopM rec t v (k + j) (i + 1) _ _ = loopM rec t v j (i + 1 + k) (loopM rec t v k (i + 1) _ _).1 (loopM rec t v k (i + 1) _ _).2
    exact loopM_split k j _ _ _
theorem spanF_later {t : ETrace} (hd : DomC t) {v a b : Int} (h0 : 0 ≤ v) (hv : v < a) (hab : a ≤ b) (hl : b ≤ (t.2.2.2.1.length : Int)) : (spanF t v a).1 ≤ (spanF t v b).1 ∧ (spanF t v b).2 ≤ (spanF t v a).2 := by
  have e : spanF t v b = (loopM (fun v a (m : Unit) => (spanP t b.toNat v a, m)) t v (b - a).toNat a (spanF t v a) ()).1 := by
    have e0 : spanF t v a = spanP t (b.toNat + 1) v a := spanP_more (SameX.refl t) hd.toDomT _ _ v a (by omega) (by omega) h0 hv (by omega)
    rw [e0]
    show (bodyM (fun v a (m : Unit) => (spanP t b.toNat v a, m)) t v b ()).1 = (loopM _ t v _ a (bodyM (fun v a (m : Unit) => (spanP t b.toNat v a, m)) t v a ()).1 ()).1
    unfold bodyM
    rw [show (b - (v + 1)).toNat = (a - (v + 1)).toNat + (b - a).toNat by omega, loopM_split]
    rw [show v + 1 + (((a - (v + 1)).toNat : Nat) : Int) = a by omega]
  rw [e]
  exact (loopM_in _ (spanF_in hd h0 hv (by omega)) _ _).2
theorem kOk_of {c : EChk} {f : EForm} {x : EIns} {a : Int} (h : formedF c f x a = true) : kOk f x = true := by
  unfold formedF tailF tail2F at h
  cases hk : kOk f x with
  | true => rfl
  | false => simp [hk] at h
theorem dom_of {p : EProg} {t : ETrace} (hc : CheckOk p t) : DomC t := by
  have hl : ∀ i : Int, 0 ≤ i → i < (t.2.2.2.1.length : Int) → i.toNat < t.2.2.2.1.length := fun i h0 h1 => by omega
  refine { bin := fun i h0 h1 ho => ?_, tru := fun i h0 h1 ho => ?_, con := fun i h0 h1 ho hk => ?_ }
  · obtain ⟨q0, q1, _⟩ := ask_in hc (hl i h0 h1)
    have e : (askF (insV t i)).length = 2 := by unfold askF; rw [ho]; rfl
    unfold insV at e
    rw [e] at q0 q1
    have r0 := q0 (by decide)
    have r1 := q1 (by decide)
    unfold insV
    omega
  · obtain ⟨q0, _, _⟩ := ask_in hc (hl i h0 h1)
    have e : (askF (insV t i)).length = 1 := by unfold askF; rw [ho]; rfl
    unfold insV at e
    rw [e] at q0
    have r0 := q0 (by decide)
    unfold insV
    omega
  · have ex : t.2.2.2.1[i.toNat]? = some (insV t i) := by unfold insV; rw [List.getD_eq_getElem?_getD, List.getElem?_eq_getElem (hl i h0 h1)]; rfl
    obtain ⟨_, h2⟩ := hc.ins _ _ ex
    have h3 := kOk_of h2
    rw [ho] at h3
    have h4 : rightVF (insV t i).2.2.2.2.2.2 = true := h3
    unfold rightVF rightF at h4
    simp only [hk] at h4
    have h5 : withinF (insV t i).2.2.2.2.2.2.2 (-2147483648) 2147483647 = true := h4
    simp only [withinF, Bool.and_eq_true, decide_eq_true_eq] at h5
    exact h5
theorem spanM_rel {t : ETrace} (hd : DomT t) {k : Nat} {bd : Int} (hk : bd.toNat ≤ k) (hl : bd ≤ (t.2.2.2.1.length : Int)) : RelM (fun (x : EMem) (_ : Unit) => KeptOk t x) bd (spanM t k) (fun v a (m : Unit) => (spanF t v a, m)) := fun v a m _ h0 hv ha hm => by
  obtain ⟨e, h, _⟩ := spanM_ok hd k v a m (by omega) h0 hv (by omega) hm
  exact ⟨e, h⟩
theorem KeptOk.small {t : ETrace} {n : Nat} {m : EVal → Option EVal} (h : KeptOk t (n, m)) (hL : t.2.2.2.1.length ≤ 300) : n ≤ 90300 := by
  have h1 := h.less
  have h2 : t.2.2.2.1.length * (t.2.2.2.1.length + 1) ≤ 300 * 301 := Nat.mul_le_mul hL (by omega)
  simp only at h1
  omega
theorem spanM_hit {t : ETrace} {k : Nat} {v a : Int} {n : Nat} {m : EVal → Option EVal} (h : (m (v, a)).isSome = true) : spanM t (k + 1) v a (n, m) = ((m (v, a)).getD (0, 0), (n, m)) := by
  unfold spanM
  cases hq : m (v, a) with
  | none => rw [hq] at h; cases h
  | some s => simp only [hq]; rfl
theorem spanM_miss {t : ETrace} {k : Nat} {v a : Int} {n : Nat} {m : EVal → Option EVal} (h : (m (v, a)).isSome = false) : spanM t (k + 1) v a (n, m) = ((loopM (spanM t k) t v (a - (v + 1)).toNat (v + 1) (itselfM (spanM t k) t v (n, m)).1 (itselfM (spanM t k) t v (n, m)).2).1, ((loopM (spanM t k) t v (a - (v + 1)).toNat (v + 1) (itselfM (spanM t k) t v (n, m)).1 (itselfM (spanM t k) t v (n, m)).2).2.1 + 1, updM (kt := tVal) (loopM (spanM t k) t v (a - (v + 1)).toNat (v + 1) (itselfM (spanM t k) t v (n, m)).1 (itselfM (spanM t k) t v (n, m)).2).2.2 (v, a) (loopM (spanM t k) t v (a - (v + 1)).toNat (v + 1) (itselfM (spanM t k) t v (n, m)).1 (itselfM (spanM t k) t v (n, m)).2).1)) := by
  rw [spanM]
  cases hq : m (v, a) with
  | none => simp only [hq]; rfl
  | some s => rw [hq] at h; cases h
section
variable {M : Type} {rec : Int → Int → M → EVal × M} {t : ETrace} {v a : Int} {i : Int} {s : EVal} {m : M}
theorem loopM_no (hi : i < a) (h : ¬ guardOf t v i) : loopM rec t v (a - i).toNat i s m = loopM rec t v (a - (i + 1)).toNat (i + 1) s m := by
  rw [show (a - i).toNat = (a - (i + 1)).toNat + 1 by omega, loopM, stepM, if_neg h]
theorem loopM_1 (hi : i < a) (h : guardOf t v i) (h1 : (insV t i).2.2.2.2.1 = 1) {d : Int} (hd : lessI t i = d) : loopM rec t v (a - i).toNat i s m = loopM rec t v (a - (i + 1)).toNat (i + 1) (narM rec s v (insV t (insV t i).2.1).2.1 (insV t (insV t i).2.1).2.2.1 d i m).1 (narM rec s v (insV t (insV t i).2.1).2.1 (insV t (insV t i).2.1).2.2.1 d i m).2 := by
  rw [show (a - i).toNat = (a - (i + 1)).toNat + 1 by omega, loopM, stepM, if_pos h, if_pos h1, hd]
theorem loopM_2 (hi : i < a) (h : guardOf t v i) (h1 : ¬ (insV t i).2.2.2.2.1 = 1) {d : Int} (hd : 1 - lessI t i = d) : loopM rec t v (a - i).toNat i s m = loopM rec t v (a - (i + 1)).toNat (i + 1) (narM rec s v (insV t (insV t i).2.1).2.2.1 (insV t (insV t i).2.1).2.1 d i m).1 (narM rec s v (insV t (insV t i).2.1).2.2.1 (insV t (insV t i).2.1).2.1 d i m).2 := by
  rw [show (a - i).toNat = (a - (i + 1)).toNat + 1 by omega, loopM, stepM, if_pos h, if_neg h1, hd]
theorem itM_con (h : (insV t v).1 = 2) (h1 : (insV t v).2.2.2.2.2.2.1 = 2) : itselfM rec t v m = (((insV t v).2.2.2.2.2.2.2, (insV t v).2.2.2.2.2.2.2), m) := if_pos ⟨h, h1⟩
variable (hc : ¬ ((insV t v).1 = 2 ∧ (insV t v).2.2.2.2.2.2.1 = 2))
include hc
theorem itM_cnt (h : (insV t v).1 = 15) : itselfM rec t v m = ((0, 600), m) := by rw [itselfM, if_neg hc, if_pos h]
theorem itM_all (h : ¬ (insV t v).1 = 15) (h1 : ¬ (insV t v).1 = 7) : itselfM rec t v m = (allB, m) := by rw [itselfM, if_neg hc, if_neg h, if_pos h1]
theorem itM_ints (h : ¬ (insV t v).1 = 15) (h1 : (insV t v).1 = 7) (h2 : intsF t v = false) : itselfM rec t v m = (allB, m) := by rw [itselfM, if_neg hc, if_neg h, if_neg (fun q => q h1), if_pos h2]
theorem itM_rec (h : ¬ (insV t v).1 = 15) (h1 : (insV t v).1 = 7) (h2 : intsF t v = true) (h3 : (reckM rec t v m).1.2 = true) : itselfM rec t v m = ((cutN (reckM rec t v m).1.1.1, cutN (reckM rec t v m).1.1.2), (reckM rec t v m).2) := by rw [itselfM, if_neg hc, if_neg h, if_neg (fun q => q h1), if_neg (by rw [h2]; decide), if_pos h3]
theorem itM_mod (h : ¬ (insV t v).1 = 15) (h1 : (insV t v).1 = 7) (h2 : intsF t v = true) (h3 : (reckM rec t v m).1.2 = false) : itselfM rec t v m = modM rec t v (reckM rec t v m).2 := by rw [itselfM, if_neg hc, if_neg h, if_neg (fun q => q h1), if_neg (by rw [h2]; decide), if_neg (by rw [h3]; decide)]
omit hc
theorem modM_1 (h0 : (insV t v).2.2.2.2.1 = 7) (h1 : 1 ≤ (rec (insV t v).2.2.1 v m).1.1) (h2 : 0 ≤ (rec (insV t v).2.1 v (rec (insV t v).2.2.1 v m).2).1.1) : modM rec t v m = ((0, (rec (insV t v).2.2.1 v m).1.2 - 1), (rec (insV t v).2.1 v (rec (insV t v).2.2.1 v m).2).2) := by rw [modM, if_pos h0, if_pos h1, modB, if_pos h2]
theorem modM_2 (h0 : (insV t v).2.2.2.2.1 = 7) (h1 : 1 ≤ (rec (insV t v).2.2.1 v m).1.1) (h2 : ¬ 0 ≤ (rec (insV t v).2.1 v (rec (insV t v).2.2.1 v m).2).1.1) : modM rec t v m = ((0 - ((rec (insV t v).2.2.1 v m).1.2 - 1), (rec (insV t v).2.2.1 v m).1.2 - 1), (rec (insV t v).2.1 v (rec (insV t v).2.2.1 v m).2).2) := by rw [modM, if_pos h0, if_pos h1, modB, if_neg h2]
theorem modM_3 (h0 : (insV t v).2.2.2.2.1 = 7) (h1 : ¬ 1 ≤ (rec (insV t v).2.2.1 v m).1.1) : modM rec t v m = (allB, (rec (insV t v).2.2.1 v m).2) := by rw [modM, if_pos h0, if_neg h1]
theorem modM_4 (h0 : ¬ (insV t v).2.2.2.2.1 = 7) : modM rec t v m = (allB, (rec (insV t v).2.2.1 v m).2) := by rw [modM, if_neg h0]
end
end Go.Proofs.YtefkifdhjabdiaaDoor
namespace Go.Proofs.YtefkifdhjabdiaaDoor
set_option maxHeartbeats 4000000
set_option linter.unusedVariables false
set_option linter.unusedSimpArgs false
set_option maxRecDepth 100000
noncomputable def oc101 : Orc where
  pure := fun f args => match f, args with
    | 21, [a0, a1, a2] => match dA tTrace a0, dA tI a1, dA tI a2 with
      | some x0, some x1, some x2 => some (.c (.int .i64 (kindF x0 x1 x2)))
      | _, _, _ => none
    | _, _ => none
  heap := fun _ _ _ => none
def whole_lv : LV := ⟨([]), []⟩
noncomputable def whole_T (t : ETrace) (n : Nat) (m : EVal → Option EVal) (v : Int) (a : Int) : Tree :=
  .call 21 [.agg (Ty.enc tTrace t), .c (.int .i64 v), .c (.int .i64 a)] false (.c (.int .i64 (kindF t v a))) <|
  .ret (.c (.bool (decide (kindF t v a = 2)))) [.cells 128 (Ty.enc tTrace t ++ [.map 1]), .map 164 tVal tVal n m]
theorem whole_T_ok (t : ETrace) (n : Nat) (m : EVal → Option EVal) (v : Int) (a : Int) : aRun Tryd.prog oc101 Tryd.f129 whole_lv 3000 [.code (bodyOf Tryd.f129)] ([.c (.ptr 0 0 0 0), .c (.int .i64 v), .c (.int .i64 a)] ++ List.replicate (Func.ntmps Tryd.f129 - 3) .junk) [.cells 128 (Ty.enc tTrace t ++ [.map 1]), .map 164 tVal tVal n m] = whole_T t n m v a := by kernel_rfl
theorem whole_fun (t : ETrace) (n : Nat) (m : EVal → Option EVal) (v : Int) (a : Int) : AFunH Tryd.prog 129 [.c (.ptr 0 0 0 0), .c (.int .i64 v), .c (.int .i64 a)] [.cells 128 (Ty.enc tTrace t ++ [.map 1]), .map 164 tVal tVal n m] (.c (.bool (decide (kindF t v a = 2)))) [.cells 128 (Ty.enc tTrace t ++ [.map 1]), .map 164 tVal tVal n m] (List.range 2) :=
  AFunH.ofL oc101 whole_lv 3000 Tryd.func129 mixed rfl (by decide) (Nat.le_of_ble_eq_true rfl) rfl rfl (Nat.le_of_ble_eq_true rfl) _ (whole_T_ok t n m v a) fun hF => by
    unfold whole_T
    refine g_call (kind_fun t v a) (fun h => nomatch h) ?_
    refine g_fin ?_
    exact g_end [0, 1] (show ∀ k, k < 2 → ([0, 1] : List Nat)[k]? = some k by decide) (by decide) (leAV.refl _) ⟨leB.refl _, leB.refl _, trivial⟩

noncomputable def oc102 : Orc where
  pure := fun f args => match f, args with
    | _, _ => none
  heap := fun f args H => match f, args with
    | 129, [.one (.c (.ptr b0 0 0 0)), a1, a2] => match cellsAs 128 H[b0]? with
      | some [c0_0_0, c0_0_1, c0_0_2, c0_0_3, c0_0_4, c0_0_5, c0_0_6, c0_0_7, c0_0_8, c0_0_9, c0_0_10, c0_0_11, c0_0_12, .map b1] => (match dA tI a1, dA tI a2, dCs tTrace [c0_0_0, c0_0_1, c0_0_2, c0_0_3, c0_0_4, c0_0_5, c0_0_6, c0_0_7, c0_0_8, c0_0_9, c0_0_10, c0_0_11, c0_0_12], mapAs 164 tVal tVal H[b1]? with
        | some x1, some x2, some y0_0, some (n1, y1) => hres [b0, b1] H (.c (.bool (decide (kindF y0_0 x1 x2 = 2)))) [.cells 128 [.int .i64 y0_0.1, .int .i64 y0_0.2.1, .int .i64 y0_0.2.2.1, .ro tIns y0_0.2.2.2.1, .ro tExit y0_0.2.2.2.2.1, .int .i64 y0_0.2.2.2.2.2.1.1, .int .i64 y0_0.2.2.2.2.2.1.2.1, .ro tVal y0_0.2.2.2.2.2.1.2.2.1, .ro tMake y0_0.2.2.2.2.2.1.2.2.2, .int .i64 y0_0.2.2.2.2.2.2.1, .int .i64 y0_0.2.2.2.2.2.2.2.1, .ro tVal y0_0.2.2.2.2.2.2.2.2.1, .ro tMake y0_0.2.2.2.2.2.2.2.2.2, .map 1], .map 164 tVal tVal n1 y1]
        | _, _, _, _ => none)
      | _ => none
    | _, _ => none
def ints_lv : LV := ⟨([]), []⟩
noncomputable def ints_T (t : ETrace) (n : Nat) (m : EVal → Option EVal) (i : Int) : Tree :=
  .need ((0 : Int) ≤ i ∧ (i : Int) < (t.2.2.2.1.length : Int)) <|
  .need ((Int.toNat i) < t.2.2.2.1.length) <|
  .callH 129 [.c (.ptr 0 0 0 0), .c (.int .i64 (t.2.2.2.1.getD (Int.toNat i) tIns.dflt).2.1), .c (.int .i64 i)] [.cells 128 (Ty.enc tTrace t ++ [.map 1]), .map 164 tVal tVal n m, .cells 46 (Ty.enc tIns (t.2.2.2.1.getD (Int.toNat i) tIns.dflt))] (.c (.bool (decide (kindF t (t.2.2.2.1.getD (Int.toNat i) tIns.dflt).2.1 i = 2)))) [.cells 128 (Ty.enc tTrace t ++ [.map 1]), .map 164 tVal tVal n m, .cells 46 (Ty.enc tIns (t.2.2.2.1.getD (Int.toNat i) tIns.dflt))] [0, 1] <|
  .ite (decide (kindF t (t.2.2.2.1.getD (Int.toNat i) tIns.dflt).2.1 i = 2))
  (.callH 129 [.c (.ptr 0 0 0 0), .c (.int .i64 (t.2.2.2.1.getD (Int.toNat i) tIns.dflt).2.2.1), .c (.int .i64 i)] [.cells 128 (Ty.enc tTrace t ++ [.map 1]), .map 164 tVal tVal n m, .cells 46 (Ty.enc tIns (t.2.2.2.1.getD (Int.toNat i) tIns.dflt))] (.c (.bool (decide (kindF t (t.2.2.2.1.getD (Int.toNat i) tIns.dflt).2.2.1 i = 2)))) [.cells 128 (Ty.enc tTrace t ++ [.map 1]), .map 164 tVal tVal n m, .cells 46 (Ty.enc tIns (t.2.2.2.1.getD (Int.toNat i) tIns.dflt))] [0, 1] <|
   .ret (.c (.bool (decide (kindF t (t.2.2.2.1.getD (Int.toNat i) tIns.dflt).2.2.1 i = 2)))) [.cells 128 (Ty.enc tTrace t ++ [.map 1]), .map 164 tVal tVal n m, .cells 46 (Ty.enc tIns (t.2.2.2.1.getD (Int.toNat i) tIns.dflt))])
  (.ret (.c (.lit false)) [.cells 128 (Ty.enc tTrace t ++ [.map 1]), .map 164 tVal tVal n m, .cells 46 (Ty.enc tIns (t.2.2.2.1.getD (Int.toNat i) tIns.dflt))])
theorem ints_T_ok (t : ETrace) (n : Nat) (m : EVal → Option EVal) (i : Int) : aRun Tryd.prog oc102 Tryd.f96 ints_lv 3000 [.code (bodyOf Tryd.f96)] ([.c (.ptr 0 0 0 0), .c (.int .i64 i)] ++ List.replicate (Func.ntmps Tryd.f96 - 2) .junk) [.cells 128 (Ty.enc tTrace t ++ [.map 1]), .map 164 tVal tVal n m] = ints_T t n m i := by kernel_rfl
theorem ints_fun (t : ETrace) (n : Nat) (m : EVal → Option EVal) (i : Int) (hi : 0 ≤ i ∧ i < (t.2.2.2.1.length : Int)) : AFunH Tryd.prog 96 [.c (.ptr 0 0 0 0), .c (.int .i64 i)] [.cells 128 (Ty.enc tTrace t ++ [.map 1]), .map 164 tVal tVal n m] (.c (.bool (intsF t i))) [.cells 128 (Ty.enc tTrace t ++ [.map 1]), .map 164 tVal tVal n m] (List.range 2) :=
  AFunH.ofL oc102 ints_lv 3000 Tryd.func96 mixed rfl (by decide) (Nat.le_of_ble_eq_true rfl) rfl rfl (Nat.le_of_ble_eq_true rfl) _ (ints_T_ok t n m i) fun hF => by
    unfold ints_T
    refine g_need (by omega) ?_
    refine g_need (by omega) ?_
    refine g_callH (AFunH.frameB [0, 1] (whole_fun t n m (t.2.2.2.1.getD (Int.toNat i) tIns.dflt).2.1 i) rfl rfl rfl rfl rfl rfl rfl) ?_
    refine g_iteD (fun h0 => ?_) (fun h0 => ?_)
    · refine g_callH (AFunH.frameB [0, 1] (whole_fun t n m (t.2.2.2.1.getD (Int.toNat i) tIns.dflt).2.2.1 i) rfl rfl rfl rfl rfl rfl rfl) ?_
      unfold intsF insV; first | rw [if_pos h0] | rw [if_neg h0]
      refine g_fin ?_
      exact g_end [0, 1] (show ∀ k, k < 2 → ([0, 1] : List Nat)[k]? = some k by decide) (by decide) (rfl) ⟨leB.refl _, leB.refl _, trivial⟩
    · unfold intsF insV; first | rw [if_pos h0] | rw [if_neg h0]
      refine g_fin ?_
      exact g_end [0, 1] (show ∀ k, k < 2 → ([0, 1] : List Nat)[k]? = some k by decide) (by decide) (rfl) ⟨leB.refl _, leB.refl _, trivial⟩

def minF (xs : List Int) : Int := minL (xs.getD 0 tI.dflt) (xs.drop 1)
def maxF (xs : List Int) : Int := maxL (xs.getD 0 tI.dflt) (xs.drop 1)
noncomputable def oc103min : Orc where
  pure := fun f args => match f, args with
    | _, _ => none
  heap := fun _ _ _ => none
def min_lv : LV := ⟨(true :: F2 (true :: true :: F16 (F4 ([])))), []⟩
noncomputable def min_T (xs : List Int) : Tree :=
  .ite (decide ((xs.length : Int) < 1))
  (.fail 92)
  (.need ((0 : Int) ≤ 0 ∧ (0 : Int) < (xs.length : Int)) <|
   .need (0 < xs.length) <|
   .stop (lp (bodyOf Tryd.f132) 0) (.c (.ro tI xs) :: J2 (.c (.int .i64 (xs.getD 0 tI.dflt)) :: .c (.int .i64 1) :: J16 (J4 ([])))) [])
theorem min_T_ok (xs : List Int) : aRun Tryd.prog oc103min Tryd.f132 min_lv 3000 [.code (bodyOf Tryd.f132)] ([.c (.ro tI xs)] ++ List.replicate (Func.ntmps Tryd.f132 - 1) .junk) [] = min_T xs := by kernel_rfl
noncomputable def min_l0_R (xs : List Int) (i : Nat) (a : Int) : Tree :=
  .ite (decide (((i : Nat) : Int) < (xs.length : Int)))
  (.need ((0 : Int) ≤ ((i : Nat) : Int) ∧ (((i : Nat) : Int) : Int) < (xs.length : Int)) <|
   .need (i < xs.length) <|
   .need (inR .i64 (xs.getD i tI.dflt)) <|
   .need (inR .i64 (((i : Nat) : Int) + 1)) <|
   .stop (lp (bodyOf Tryd.f132) 0) (.c (.ro tI xs) :: J2 (.c (.int .i64 (if (xs.getD i tI.dflt) < a then (xs.getD i tI.dflt) else a)) :: .c (.int .i64 (((i : Nat) : Int) + 1)) :: J16 (J4 ([])))) [])
  (.ret (.c (.int .i64 a)) [])
theorem min_l0_R_ok (xs : List Int) (i : Nat) (a : Int) : aRound Tryd.prog oc103min Tryd.f132 min_lv 3000 (lp (bodyOf Tryd.f132) 0) (.c (.ro tI xs) :: J2 (.c (.int .i64 a) :: .c (.int .i64 ((i : Nat) : Int)) :: J16 (J4 ([])))) [] = min_l0_R xs i a := by kernel_rfl
theorem min_l0 (xs : List Int) (i : Nat) (a : Int) (hl : Ty.ok (.slice tI) xs) : Run Tryd.prog 132 (retQ Tryd.prog (.c (.int .i64 (minL a (xs.drop i))))) (lp (bodyOf Tryd.f132) 0) (.c (.ro tI xs) :: J2 (.c (.int .i64 a) :: .c (.int .i64 ((i : Nat) : Int)) :: J16 (J4 ([])))) [] :=
  Run.roundA oc103min min_lv 3000 Tryd.func132 mixed (min_l0_R xs i a) (min_l0_R_ok xs i a) (by
    unfold min_l0_R
    refine g_iteD (fun h0 => ?_) (fun h0 => ?_)
    · refine g_need (by omega) ?_
      refine g_need (by omega) ?_
      refine g_need (by first | omega | (have := hl.1; rw [i64_iff]; omega) | (exact hl.2 _ (getD_mem (α := Int) (Ty.dflt tI) (by omega)))) ?_
      refine g_need (by first | omega | (have := hl.1; rw [i64_iff]; omega) | (exact hl.2 _ (getD_mem (α := Int) (Ty.dflt tI) (by omega)))) ?_
      refine g_stop (RunN.keep [] (true :: F2 (true :: true :: F16 (F4 ([])))) n0 (by decide) rfl rfl ?_)
      have ht := min_l0 xs (i + 1) (if (xs.getD i tI.dflt) < a then (xs.getD i tI.dflt) else a) hl; rw [dropCons (α := Int) (Ty.dflt tI) (by omega : i < xs.length), minL]; exact ht
    · refine g_rq ?_
      exact g_rl (⟨rfl, (show (a : Int) = minL a (xs.drop i) from by rw [List.drop_eq_nil_of_le (by omega)]; rfl)⟩) rfl
    )
  termination_by xs.length - i
  decreasing_by all_goals omega
theorem min_fun (xs : List Int) (hx : xs ≠ []) : AFun Tryd.prog 132 [.c (.ro tI xs)] (.c (.int .i64 (minF xs))) :=
  AFun.of oc103min min_lv 3000 Tryd.func132 mixed rfl (by decide) (Nat.le_of_ble_eq_true rfl) _ (min_T_ok xs) fun hF => by
    have hl := (hF.ro).1
    unfold min_T
    refine g_iteD (fun h0 => ?_) (fun h0 => ?_)
    · exact (show False from by first | omega | (have := List.length_pos_iff.2 hx; omega))
    · refine g_need (by omega) ?_
      refine g_need (by omega) ?_
      refine g_stop (RunN.keep [] (true :: F2 (true :: true :: F16 (F4 ([])))) n0 (by decide) rfl rfl ?_)
      exact min_l0 xs 1 (xs.getD 0 tI.dflt) hl

noncomputable def oc103max : Orc where
  pure := fun f args => match f, args with
    | _, _ => none
  heap := fun _ _ _ => none
def max_lv : LV := ⟨(true :: F2 (true :: true :: F16 (F4 ([])))), []⟩
noncomputable def max_T (xs : List Int) : Tree :=
  .ite (decide ((xs.length : Int) < 1))
  (.fail 92)
  (.need ((0 : Int) ≤ 0 ∧ (0 : Int) < (xs.length : Int)) <|
   .need (0 < xs.length) <|
   .stop (lp (bodyOf Tryd.f133) 0) (.c (.ro tI xs) :: J2 (.c (.int .i64 (xs.getD 0 tI.dflt)) :: .c (.int .i64 1) :: J16 (J4 ([])))) [])
theorem max_T_ok (xs : List Int) : aRun Tryd.prog oc103max Tryd.f133 max_lv 3000 [.code (bodyOf Tryd.f133)] ([.c (.ro tI xs)] ++ List.replicate (Func.ntmps Tryd.f133 - 1) .junk) [] = max_T xs := by kernel_rfl
noncomputable def max_l0_R (xs : List Int) (i : Nat) (a : Int) : Tree :=
  .ite (decide (((i : Nat) : Int) < (xs.length : Int)))
  (.need ((0 : Int) ≤ ((i : Nat) : Int) ∧ (((i : Nat) : Int) : Int) < (xs.length : Int)) <|
   .need (i < xs.length) <|
   .need (inR .i64 (xs.getD i tI.dflt)) <|
   .need (inR .i64 (((i : Nat) : Int) + 1)) <|
   .stop (lp (bodyOf Tryd.f133) 0) (.c (.ro tI xs) :: J2 (.c (.int .i64 (if (xs.getD i tI.dflt) > a then (xs.getD i tI.dflt) else a)) :: .c (.int .i64 (((i : Nat) : Int) + 1)) :: J16 (J4 ([])))) [])
  (.ret (.c (.int .i64 a)) [])
theorem max_l0_R_ok (xs : List Int) (i : Nat) (a : Int) : aRound Tryd.prog oc103max Tryd.f133 max_lv 3000 (lp (bodyOf Tryd.f133) 0) (.c (.ro tI xs) :: J2 (.c (.int .i64 a) :: .c (.int .i64 ((i : Nat) : Int)) :: J16 (J4 ([])))) [] = max_l0_R xs i a := by kernel_rfl
theorem max_l0 (xs : List Int) (i : Nat) (a : Int) (hl : Ty.ok (.slice tI) xs) : Run Tryd.prog 133 (retQ Tryd.prog (.c (.int .i64 (maxL a (xs.drop i))))) (lp (bodyOf Tryd.f133) 0) (.c (.ro tI xs) :: J2 (.c (.int .i64 a) :: .c (.int .i64 ((i : Nat) : Int)) :: J16 (J4 ([])))) [] :=
  Run.roundA oc103max max_lv 3000 Tryd.func133 mixed (max_l0_R xs i a) (max_l0_R_ok xs i a) (by
    unfold max_l0_R
    refine g_iteD (fun h0 => ?_) (fun h0 => ?_)
    · refine g_need (by omega) ?_
      refine g_need (by omega) ?_
      refine g_need (by first | omega | (have := hl.1; rw [i64_iff]; omega) | (exact hl.2 _ (getD_mem (α := Int) (Ty.dflt tI) (by omega)))) ?_
      refine g_need (by first | omega | (have := hl.1; rw [i64_iff]; omega) | (exact hl.2 _ (getD_mem (α := Int) (Ty.dflt tI) (by omega)))) ?_
      refine g_stop (RunN.keep [] (true :: F2 (true :: true :: F16 (F4 ([])))) n0 (by decide) rfl rfl ?_)
      have ht := max_l0 xs (i + 1) (if (xs.getD i tI.dflt) > a then (xs.getD i tI.dflt) else a) hl; rw [dropCons (α := Int) (Ty.dflt tI) (by omega : i < xs.length), maxL]; exact ht
    · refine g_rq ?_
      exact g_rl (⟨rfl, (show (a : Int) = maxL a (xs.drop i) from by rw [List.drop_eq_nil_of_le (by omega)]; rfl)⟩) rfl
    )
  termination_by xs.length - i
  decreasing_by all_goals omega
theorem max_fun (xs : List Int) (hx : xs ≠ []) : AFun Tryd.prog 133 [.c (.ro tI xs)] (.c (.int .i64 (maxF xs))) :=
  AFun.of oc103max max_lv 3000 Tryd.func133 mixed rfl (by decide) (Nat.le_of_ble_eq_true rfl) _ (max_T_ok xs) fun hF => by
    have hl := (hF.ro).1
    unfold max_T
    refine g_iteD (fun h0 => ?_) (fun h0 => ?_)
    · exact (show False from by first | omega | (have := List.length_pos_iff.2 hx; omega))
    · refine g_need (by omega) ?_
      refine g_need (by omega) ?_
      refine g_stop (RunN.keep [] (true :: F2 (true :: true :: F16 (F4 ([])))) n0 (by decide) rfl rfl ?_)
      exact max_l0 xs 1 (xs.getD 0 tI.dflt) hl

/-- What is known of spans below a place. -/
def SpanC (t : ETrace) (k : Nat) (bd : Int) : Prop := ∀ (v a : Int) (n : Nat) (m : EVal → Option EVal), 0 ≤ v → v < a → a < bd → KeptOk t (n, m) →
  AFunH Tryd.prog 62 [.c (.ptr 0 0 0 0), .c (.int .i64 v), .c (.int .i64 a)] [.cells 128 (Ty.enc tTrace t ++ [.map 1]), .map 164 tVal tVal n m] (.agg (Ty.enc tVal (spanM t k v a (n, m)).1)) [.cells 128 (Ty.enc tTrace t ++ [.map 1]), .map 164 tVal tVal (spanM t k v a (n, m)).2.1 (spanM t k v a (n, m)).2.2] (List.range 2)
theorem reckM_add {M : Type} {rec : Int → Int → M → EVal × M} {t : ETrace} {i : Int} {m : M} (h : (insV t i).2.2.2.2.1 = 3) : reckM rec t i m = ((((rec (insV t i).2.1 i m).1.1 + (rec (insV t i).2.2.1 i (rec (insV t i).2.1 i m).2).1.1, (rec (insV t i).2.1 i m).1.2 + (rec (insV t i).2.2.1 i (rec (insV t i).2.1 i m).2).1.2), true), (rec (insV t i).2.2.1 i (rec (insV t i).2.1 i m).2).2) := by unfold reckM recB; rw [if_pos h]
theorem reckM_sub {M : Type} {rec : Int → Int → M → EVal × M} {t : ETrace} {i : Int} {m : M} (h0 : ¬ (insV t i).2.2.2.2.1 = 3) (h : (insV t i).2.2.2.2.1 = 4) : reckM rec t i m = ((((rec (insV t i).2.1 i m).1.1 - (rec (insV t i).2.2.1 i (rec (insV t i).2.1 i m).2).1.2, (rec (insV t i).2.1 i m).1.2 - (rec (insV t i).2.2.1 i (rec (insV t i).2.1 i m).2).1.1), true), (rec (insV t i).2.2.1 i (rec (insV t i).2.1 i m).2).2) := by unfold reckM recB; rw [if_neg h0, if_pos h]
theorem reckM_mul {M : Type} {rec : Int → Int → M → EVal × M} {t : ETrace} {i : Int} {m : M} (h0 : ¬ (insV t i).2.2.2.2.1 = 3) (h1 : ¬ (insV t i).2.2.2.2.1 = 4) (h : (insV t i).2.2.2.2.1 = 5) {a b : EVal} (ha : (rec (insV t i).2.1 i m).1 = a) (hb : (rec (insV t i).2.2.1 i (rec (insV t i).2.1 i m).2).1 = b) : reckM rec t i m = (((minF [a.1 * b.1, a.1 * b.2, a.2 * b.1, a.2 * b.2], maxF [a.1 * b.1, a.1 * b.2, a.2 * b.1, a.2 * b.2]), true), (rec (insV t i).2.2.1 i (rec (insV t i).2.1 i m).2).2) := by unfold reckM recB; rw [if_neg h0, if_neg h1, if_pos h, ha, hb]; rfl
theorem reckM_no {M : Type} {rec : Int → Int → M → EVal × M} {t : ETrace} {i : Int} {m : M} (h0 : ¬ (insV t i).2.2.2.2.1 = 3) (h1 : ¬ (insV t i).2.2.2.2.1 = 4) (h2 : ¬ (insV t i).2.2.2.2.1 = 5) : reckM rec t i m = (((0, 0), false), (rec (insV t i).2.2.1 i (rec (insV t i).2.1 i m).2).2) := by unfold reckM recB; rw [if_neg h0, if_neg h1, if_neg h2]
noncomputable def oc104 (k : Nat) : Orc where
  pure := fun f args => match f, args with
    | 132, [a0] => match dA (.slice tI) a0 with
      | some x0 => some (.c (.int .i64 (minF x0)))
      | _ => none
    | 133, [a0] => match dA (.slice tI) a0 with
      | some x0 => some (.c (.int .i64 (maxF x0)))
      | _ => none
    | _, _ => none
  heap := fun f args H => match f, args with
    | 62, [.one (.c (.ptr b0 0 0 0)), a1, a2] => match cellsAs 128 H[b0]? with
      | some [c0_0_0, c0_0_1, c0_0_2, c0_0_3, c0_0_4, c0_0_5, c0_0_6, c0_0_7, c0_0_8, c0_0_9, c0_0_10, c0_0_11, c0_0_12, .map b1] => (match dA tI a1, dA tI a2, dCs tTrace [c0_0_0, c0_0_1, c0_0_2, c0_0_3, c0_0_4, c0_0_5, c0_0_6, c0_0_7, c0_0_8, c0_0_9, c0_0_10, c0_0_11, c0_0_12], mapAs 164 tVal tVal H[b1]? with
        | some x1, some x2, some y0_0, some (n1, y1) => hres [b0, b1] H (.agg (Ty.enc tVal ((spanM y0_0 k x1 x2 (n1, y1)).1))) [.cells 128 [.int .i64 y0_0.1, .int .i64 y0_0.2.1, .int .i64 y0_0.2.2.1, .ro tIns y0_0.2.2.2.1, .ro tExit y0_0.2.2.2.2.1, .int .i64 y0_0.2.2.2.2.2.1.1, .int .i64 y0_0.2.2.2.2.2.1.2.1, .ro tVal y0_0.2.2.2.2.2.1.2.2.1, .ro tMake y0_0.2.2.2.2.2.1.2.2.2, .int .i64 y0_0.2.2.2.2.2.2.1, .int .i64 y0_0.2.2.2.2.2.2.2.1, .ro tVal y0_0.2.2.2.2.2.2.2.2.1, .ro tMake y0_0.2.2.2.2.2.2.2.2.2, .map 1], .map 164 tVal tVal (spanM y0_0 k x1 x2 (n1, y1)).2.1 (spanM y0_0 k x1 x2 (n1, y1)).2.2]
        | _, _, _, _ => none)
      | _ => none
    | _, _ => none
def reck_lv : LV := ⟨([]), []⟩
noncomputable def reck_T (t : ETrace) (n : Nat) (m : EVal → Option EVal) (i : Int) (k : Nat) : Tree :=
  .need ((0 : Int) ≤ i ∧ (i : Int) < (t.2.2.2.1.length : Int)) <|
  .need ((Int.toNat i) < t.2.2.2.1.length) <|
  .callH 62 [.c (.ptr 0 0 0 0), .c (.int .i64 (t.2.2.2.1.getD (Int.toNat i) tIns.dflt).2.1), .c (.int .i64 i)] [.cells 128 (Ty.enc tTrace t ++ [.map 1]), .map 164 tVal tVal n m, .cells 130 [.int .i64 0, .int .i64 0], .cells 46 (Ty.enc tIns (t.2.2.2.1.getD (Int.toNat i) tIns.dflt))] (.agg [.int .i64 (spanM t k (t.2.2.2.1.getD (Int.toNat i) tIns.dflt).2.1 i (n, m)).1.1, .int .i64 (spanM t k (t.2.2.2.1.getD (Int.toNat i) tIns.dflt).2.1 i (n, m)).1.2]) [.cells 128 (Ty.enc tTrace t ++ [.map 1]), .map 164 tVal tVal (spanM t k (t.2.2.2.1.getD (Int.toNat i) tIns.dflt).2.1 i (n, m)).2.1 (spanM t k (t.2.2.2.1.getD (Int.toNat i) tIns.dflt).2.1 i (n, m)).2.2, .cells 130 [.int .i64 0, .int .i64 0], .cells 46 (Ty.enc tIns (t.2.2.2.1.getD (Int.toNat i) tIns.dflt))] [0, 1] <|
  .callH 62 [.c (.ptr 0 0 0 0), .c (.int .i64 (t.2.2.2.1.getD (Int.toNat i) tIns.dflt).2.2.1), .c (.int .i64 i)] [.cells 128 (Ty.enc tTrace t ++ [.map 1]), .map 164 tVal tVal (spanM t k (t.2.2.2.1.getD (Int.toNat i) tIns.dflt).2.1 i (n, m)).2.1 (spanM t k (t.2.2.2.1.getD (Int.toNat i) tIns.dflt).2.1 i (n, m)).2.2, .cells 130 [.int .i64 0, .int .i64 0], .cells 46 (Ty.enc tIns (t.2.2.2.1.getD (Int.toNat i) tIns.dflt))] (.agg [.int .i64 (spanM t k (t.2.2.2.1.getD (Int.toNat i) tIns.dflt).2.2.1 i (spanM t k (t.2.2.2.1.getD (Int.toNat i) tIns.dflt).2.1 i (n, m)).2).1.1, .int .i64 (spanM t k (t.2.2.2.1.getD (Int.toNat i) tIns.dflt).2.2.1 i (spanM t k (t.2.2.2.1.getD (Int.toNat i) tIns.dflt).2.1 i (n, m)).2).1.2]) [.cells 128 (Ty.enc tTrace t ++ [.map 1]), .map 164 tVal tVal (spanM t k (t.2.2.2.1.getD (Int.toNat i) tIns.dflt).2.2.1 i (spanM t k (t.2.2.2.1.getD (Int.toNat i) tIns.dflt).2.1 i (n, m)).2).2.1 (spanM t k (t.2.2.2.1.getD (Int.toNat i) tIns.dflt).2.2.1 i (spanM t k (t.2.2.2.1.getD (Int.toNat i) tIns.dflt).2.1 i (n, m)).2).2.2, .cells 130 [.int .i64 0, .int .i64 0], .cells 46 (Ty.enc tIns (t.2.2.2.1.getD (Int.toNat i) tIns.dflt))] [0, 1] <|
  .ite (decide ((t.2.2.2.1.getD (Int.toNat i) tIns.dflt).2.2.2.2.1 = 3))
  (.need (inR .i64 ((spanM t k (t.2.2.2.1.getD (Int.toNat i) tIns.dflt).2.1 i (n, m)).1.1 + (spanM t k (t.2.2.2.1.getD (Int.toNat i) tIns.dflt).2.2.1 i (spanM t k (t.2.2.2.1.getD (Int.toNat i) tIns.dflt).2.1 i (n, m)).2).1.1)) <|
   .need (inR .i64 ((spanM t k (t.2.2.2.1.getD (Int.toNat i) tIns.dflt).2.1 i (n, m)).1.2 + (spanM t k (t.2.2.2.1.getD (Int.toNat i) tIns.dflt).2.2.1 i (spanM t k (t.2.2.2.1.getD (Int.toNat i) tIns.dflt).2.1 i (n, m)).2).1.2)) <|
   .ret (.tup [.agg [.int .i64 ((spanM t k (t.2.2.2.1.getD (Int.toNat i) tIns.dflt).2.1 i (n, m)).1.1 + (spanM t k (t.2.2.2.1.getD (Int.toNat i) tIns.dflt).2.2.1 i (spanM t k (t.2.2.2.1.getD (Int.toNat i) tIns.dflt).2.1 i (n, m)).2).1.1), .int .i64 ((spanM t k (t.2.2.2.1.getD (Int.toNat i) tIns.dflt).2.1 i (n, m)).1.2 + (spanM t k (t.2.2.2.1.getD (Int.toNat i) tIns.dflt).2.2.1 i (spanM t k (t.2.2.2.1.getD (Int.toNat i) tIns.dflt).2.1 i (n, m)).2).1.2)], .c (.lit true)]) [.cells 128 (Ty.enc tTrace t ++ [.map 1]), .map 164 tVal tVal (spanM t k (t.2.2.2.1.getD (Int.toNat i) tIns.dflt).2.2.1 i (spanM t k (t.2.2.2.1.getD (Int.toNat i) tIns.dflt).2.1 i (n, m)).2).2.1 (spanM t k (t.2.2.2.1.getD (Int.toNat i) tIns.dflt).2.2.1 i (spanM t k (t.2.2.2.1.getD (Int.toNat i) tIns.dflt).2.1 i (n, m)).2).2.2, .cells 130 [.int .i64 ((spanM t k (t.2.2.2.1.getD (Int.toNat i) tIns.dflt).2.1 i (n, m)).1.1 + (spanM t k (t.2.2.2.1.getD (Int.toNat i) tIns.dflt).2.2.1 i (spanM t k (t.2.2.2.1.getD (Int.toNat i) tIns.dflt).2.1 i (n, m)).2).1.1), .int .i64 ((spanM t k (t.2.2.2.1.getD (Int.toNat i) tIns.dflt).2.1 i (n, m)).1.2 + (spanM t k (t.2.2.2.1.getD (Int.toNat i) tIns.dflt).2.2.1 i (spanM t k (t.2.2.2.1.getD (Int.toNat i) tIns.dflt).2.1 i (n, m)).2).1.2)], .cells 46 (Ty.enc tIns (t.2.2.2.1.getD (Int.toNat i) tIns.dflt)), .cells 130 [.int .i64 (spanM t k (t.2.2.2.1.getD (Int.toNat i) tIns.dflt).2.1 i (n, m)).1.1, .int .i64 (spanM t k (t.2.2.2.1.getD (Int.toNat i) tIns.dflt).2.1 i (n, m)).1.2], .cells 130 [.int .i64 (spanM t k (t.2.2.2.1.getD (Int.toNat i) tIns.dflt).2.2.1 i (spanM t k (t.2.2.2.1.getD (Int.toNat i) tIns.dflt).2.1 i (n, m)).2).1.1, .int .i64 (spanM t k (t.2.2.2.1.getD (Int.toNat i) tIns.dflt).2.2.1 i (spanM t k (t.2.2.2.1.getD (Int.toNat i) tIns.dflt).2.1 i (n, m)).2).1.2]])
  (.ite (decide ((t.2.2.2.1.getD (Int.toNat i) tIns.dflt).2.2.2.2.1 = 4))
   (.need (inR .i64 ((spanM t k (t.2.2.2.1.getD (Int.toNat i) tIns.dflt).2.1 i (n, m)).1.1 - (spanM t k (t.2.2.2.1.getD (Int.toNat i) tIns.dflt).2.2.1 i (spanM t k (t.2.2.2.1.getD (Int.toNat i) tIns.dflt).2.1 i (n, m)).2).1.2)) <|
    .need (inR .i64 ((spanM t k (t.2.2.2.1.getD (Int.toNat i) tIns.dflt).2.1 i (n, m)).1.2 - (spanM t k (t.2.2.2.1.getD (Int.toNat i) tIns.dflt).2.2.1 i (spanM t k (t.2.2.2.1.getD (Int.toNat i) tIns.dflt).2.1 i (n, m)).2).1.1)) <|
    .ret (.tup [.agg [.int .i64 ((spanM t k (t.2.2.2.1.getD (Int.toNat i) tIns.dflt).2.1 i (n, m)).1.1 - (spanM t k (t.2.2.2.1.getD (Int.toNat i) tIns.dflt).2.2.1 i (spanM t k (t.2.2.2.1.getD (Int.toNat i) tIns.dflt).2.1 i (n, m)).2).1.2), .int .i64 ((spanM t k (t.2.2.2.1.getD (Int.toNat i) tIns.dflt).2.1 i (n, m)).1.2 - (spanM t k (t.2.2.2.1.getD (Int.toNat i) tIns.dflt).2.2.1 i (spanM t k (t.2.2.2.1.getD (Int.toNat i) tIns.dflt).2.1 i (n, m)).2).1.1)], .c (.lit true)]) [.cells 128 (Ty.enc tTrace t ++ [.map 1]), .map 164 tVal tVal (spanM t k (t.2.2.2.1.getD (Int.toNat i) tIns.dflt).2.2.1 i (spanM t k (t.2.2.2.1.getD (Int.toNat i) tIns.dflt).2.1 i (n, m)).2).2.1 (spanM t k (t.2.2.2.1.getD (Int.toNat i) tIns.dflt).2.2.1 i (spanM t k (t.2.2.2.1.getD (Int.toNat i) tIns.dflt).2.1 i (n, m)).2).2.2, .cells 130 [.int .i64 ((spanM t k (t.2.2.2.1.getD (Int.toNat i) tIns.dflt).2.1 i (n, m)).1.1 - (spanM t k (t.2.2.2.1.getD (Int.toNat i) tIns.dflt).2.2.1 i (spanM t k (t.2.2.2.1.getD (Int.toNat i) tIns.dflt).2.1 i (n, m)).2).1.2), .int .i64 ((spanM t k (t.2.2.2.1.getD (Int.toNat i) tIns.dflt).2.1 i (n, m)).1.2 - (spanM t k (t.2.2.2.1.getD (Int.toNat i) tIns.dflt).2.2.1 i (spanM t k (t.2.2.2.1.getD (Int.toNat i) tIns.dflt).2.1 i (n, m)).2).1.1)], .cells 46 (Ty.enc tIns (t.2.2.2.1.getD (Int.toNat i) tIns.dflt)), .cells 130 [.int .i64 (spanM t k (t.2.2.2.1.getD (Int.toNat i) tIns.dflt).2.1 i (n, m)).1.1, .int .i64 (spanM t k (t.2.2.2.1.getD (Int.toNat i) tIns.dflt).2.1 i (n, m)).1.2], .cells 130 [.int .i64 (spanM t k (t.2.2.2.1.getD (Int.toNat i) tIns.dflt).2.2.1 i (spanM t k (t.2.2.2.1.getD (Int.toNat i) tIns.dflt).2.1 i (n, m)).2).1.1, .int .i64 (spanM t k (t.2.2.2.1.getD (Int.toNat i) tIns.dflt).2.2.1 i (spanM t k (t.2.2.2.1.getD (Int.toNat i) tIns.dflt).2.1 i (n, m)).2).1.2]])
   (.ite (decide ((t.2.2.2.1.getD (Int.toNat i) tIns.dflt).2.2.2.2.1 = 5))
    (.need (inR .i64 ((spanM t k (t.2.2.2.1.getD (Int.toNat i) tIns.dflt).2.1 i (n, m)).1.1 * (spanM t k (t.2.2.2.1.getD (Int.toNat i) tIns.dflt).2.2.1 i (spanM t k (t.2.2.2.1.getD (Int.toNat i) tIns.dflt).2.1 i (n, m)).2).1.1)) <|
     .need (inR .i64 ((spanM t k (t.2.2.2.1.getD (Int.toNat i) tIns.dflt).2.1 i (n, m)).1.1 * (spanM t k (t.2.2.2.1.getD (Int.toNat i) tIns.dflt).2.2.1 i (spanM t k (t.2.2.2.1.getD (Int.toNat i) tIns.dflt).2.1 i (n, m)).2).1.2)) <|
     .need (inR .i64 ((spanM t k (t.2.2.2.1.getD (Int.toNat i) tIns.dflt).2.1 i (n, m)).1.2 * (spanM t k (t.2.2.2.1.getD (Int.toNat i) tIns.dflt).2.2.1 i (spanM t k (t.2.2.2.1.getD (Int.toNat i) tIns.dflt).2.1 i (n, m)).2).1.1)) <|
     .need (inR .i64 ((spanM t k (t.2.2.2.1.getD (Int.toNat i) tIns.dflt).2.1 i (n, m)).1.2 * (spanM t k (t.2.2.2.1.getD (Int.toNat i) tIns.dflt).2.2.1 i (spanM t k (t.2.2.2.1.getD (Int.toNat i) tIns.dflt).2.1 i (n, m)).2).1.2)) <|
     .need (0 = 0 ∧ 4 = ([((spanM t k (t.2.2.2.1.getD (Int.toNat i) tIns.dflt).2.1 i (n, m)).1.1 * (spanM t k (t.2.2.2.1.getD (Int.toNat i) tIns.dflt).2.2.1 i (spanM t k (t.2.2.2.1.getD (Int.toNat i) tIns.dflt).2.1 i (n, m)).2).1.1), ((spanM t k (t.2.2.2.1.getD (Int.toNat i) tIns.dflt).2.1 i (n, m)).1.1 * (spanM t k (t.2.2.2.1.getD (Int.toNat i) tIns.dflt).2.2.1 i (spanM t k (t.2.2.2.1.getD (Int.toNat i) tIns.dflt).2.1 i (n, m)).2).1.2), ((spanM t k (t.2.2.2.1.getD (Int.toNat i) tIns.dflt).2.1 i (n, m)).1.2 * (spanM t k (t.2.2.2.1.getD (Int.toNat i) tIns.dflt).2.2.1 i (spanM t k (t.2.2.2.1.getD (Int.toNat i) tIns.dflt).2.1 i (n, m)).2).1.1), ((spanM t k (t.2.2.2.1.getD (Int.toNat i) tIns.dflt).2.1 i (n, m)).1.2 * (spanM t k (t.2.2.2.1.getD (Int.toNat i) tIns.dflt).2.2.1 i (spanM t k (t.2.2.2.1.getD (Int.toNat i) tIns.dflt).2.1 i (n, m)).2).1.2)]).length) <|
     .call 132 [.c (.ro tI ([((spanM t k (t.2.2.2.1.getD (Int.toNat i) tIns.dflt).2.1 i (n, m)).1.1 * (spanM t k (t.2.2.2.1.getD (Int.toNat i) tIns.dflt).2.2.1 i (spanM t k (t.2.2.2.1.getD (Int.toNat i) tIns.dflt).2.1 i (n, m)).2).1.1), ((spanM t k (t.2.2.2.1.getD (Int.toNat i) tIns.dflt).2.1 i (n, m)).1.1 * (spanM t k (t.2.2.2.1.getD (Int.toNat i) tIns.dflt).2.2.1 i (spanM t k (t.2.2.2.1.getD (Int.toNat i) tIns.dflt).2.1 i (n, m)).2).1.2), ((spanM t k (t.2.2.2.1.getD (Int.toNat i) tIns.dflt).2.1 i (n, m)).1.2 * (spanM t k (t.2.2.2.1.getD (Int.toNat i) tIns.dflt).2.2.1 i (spanM t k (t.2.2.2.1.getD (Int.toNat i) tIns.dflt).2.1 i (n, m)).2).1.1), ((spanM t k (t.2.2.2.1.getD (Int.toNat i) tIns.dflt).2.1 i (n, m)).1.2 * (spanM t k (t.2.2.2.1.getD (Int.toNat i) tIns.dflt).2.2.1 i (spanM t k (t.2.2.2.1.getD (Int.toNat i) tIns.dflt).2.1 i (n, m)).2).1.2)]))] true (.c (.int .i64 (minF ([((spanM t k (t.2.2.2.1.getD (Int.toNat i) tIns.dflt).2.1 i (n, m)).1.1 * (spanM t k (t.2.2.2.1.getD (Int.toNat i) tIns.dflt).2.2.1 i (spanM t k (t.2.2.2.1.getD (Int.toNat i) tIns.dflt).2.1 i (n, m)).2).1.1), ((spanM t k (t.2.2.2.1.getD (Int.toNat i) tIns.dflt).2.1 i (n, m)).1.1 * (spanM t k (t.2.2.2.1.getD (Int.toNat i) tIns.dflt).2.2.1 i (spanM t k (t.2.2.2.1.getD (Int.toNat i) tIns.dflt).2.1 i (n, m)).2).1.2), ((spanM t k (t.2.2.2.1.getD (Int.toNat i) tIns.dflt).2.1 i (n, m)).1.2 * (spanM t k (t.2.2.2.1.getD (Int.toNat i) tIns.dflt).2.2.1 i (spanM t k (t.2.2.2.1.getD (Int.toNat i) tIns.dflt).2.1 i (n, m)).2).1.1), ((spanM t k (t.2.2.2.1.getD (Int.toNat i) tIns.dflt).2.1 i (n, m)).1.2 * (spanM t k (t.2.2.2.1.getD (Int.toNat i) tIns.dflt).2.2.1 i (spanM t k (t.2.2.2.1.getD (Int.toNat i) tIns.dflt).2.1 i (n, m)).2).1.2)])))) <|
     .need (0 = 0 ∧ 4 = ([((spanM t k (t.2.2.2.1.getD (Int.toNat i) tIns.dflt).2.1 i (n, m)).1.1 * (spanM t k (t.2.2.2.1.getD (Int.toNat i) tIns.dflt).2.2.1 i (spanM t k (t.2.2.2.1.getD (Int.toNat i) tIns.dflt).2.1 i (n, m)).2).1.1), ((spanM t k (t.2.2.2.1.getD (Int.toNat i) tIns.dflt).2.1 i (n, m)).1.1 * (spanM t k (t.2.2.2.1.getD (Int.toNat i) tIns.dflt).2.2.1 i (spanM t k (t.2.2.2.1.getD (Int.toNat i) tIns.dflt).2.1 i (n, m)).2).1.2), ((spanM t k (t.2.2.2.1.getD (Int.toNat i) tIns.dflt).2.1 i (n, m)).1.2 * (spanM t k (t.2.2.2.1.getD (Int.toNat i) tIns.dflt).2.2.1 i (spanM t k (t.2.2.2.1.getD (Int.toNat i) tIns.dflt).2.1 i (n, m)).2).1.1), ((spanM t k (t.2.2.2.1.getD (Int.toNat i) tIns.dflt).2.1 i (n, m)).1.2 * (spanM t k (t.2.2.2.1.getD (Int.toNat i) tIns.dflt).2.2.1 i (spanM t k (t.2.2.2.1.getD (Int.toNat i) tIns.dflt).2.1 i (n, m)).2).1.2)]).length) <|
     .call 133 [.c (.ro tI ([((spanM t k (t.2.2.2.1.getD (Int.toNat i) tIns.dflt).2.1 i (n, m)).1.1 * (spanM t k (t.2.2.2.1.getD (Int.toNat i) tIns.dflt).2.2.1 i (spanM t k (t.2.2.2.1.getD (Int.toNat i) tIns.dflt).2.1 i (n, m)).2).1.1), ((spanM t k (t.2.2.2.1.getD (Int.toNat i) tIns.dflt).2.1 i (n, m)).1.1 * (spanM t k (t.2.2.2.1.getD (Int.toNat i) tIns.dflt).2.2.1 i (spanM t k (t.2.2.2.1.getD (Int.toNat i) tIns.dflt).2.1 i (n, m)).2).1.2), ((spanM t k (t.2.2.2.1.getD (Int.toNat i) tIns.dflt).2.1 i (n, m)).1.2 * (spanM t k (t.2.2.2.1.getD (Int.toNat i) tIns.dflt).2.2.1 i (spanM t k (t.2.2.2.1.getD (Int.toNat i) tIns.dflt).2.1 i (n, m)).2).1.1), ((spanM t k (t.2.2.2.1.getD (Int.toNat i) tIns.dflt).2.1 i (n, m)).1.2 * (spanM t k (t.2.2.2.1.getD (Int.toNat i) tIns.dflt).2.2.1 i (spanM t k (t.2.2.2.1.getD (Int.toNat i) tIns.dflt).2.1 i (n, m)).2).1.2)]))] true (.c (.int .i64 (maxF ([((spanM t k (t.2.2.2.1.getD (Int.toNat i) tIns.dflt).2.1 i (n, m)).1.1 * (spanM t k (t.2.2.2.1.getD (Int.toNat i) tIns.dflt).2.2.1 i (spanM t k (t.2.2.2.1.getD (Int.toNat i) tIns.dflt).2.1 i (n, m)).2).1.1), ((spanM t k (t.2.2.2.1.getD (Int.toNat i) tIns.dflt).2.1 i (n, m)).1.1 * (spanM t k (t.2.2.2.1.getD (Int.toNat i) tIns.dflt).2.2.1 i (spanM t k (t.2.2.2.1.getD (Int.toNat i) tIns.dflt).2.1 i (n, m)).2).1.2), ((spanM t k (t.2.2.2.1.getD (Int.toNat i) tIns.dflt).2.1 i (n, m)).1.2 * (spanM t k (t.2.2.2.1.getD (Int.toNat i) tIns.dflt).2.2.1 i (spanM t k (t.2.2.2.1.getD (Int.toNat i) tIns.dflt).2.1 i (n, m)).2).1.1), ((spanM t k (t.2.2.2.1.getD (Int.toNat i) tIns.dflt).2.1 i (n, m)).1.2 * (spanM t k (t.2.2.2.1.getD (Int.toNat i) tIns.dflt).2.2.1 i (spanM t k (t.2.2.2.1.getD (Int.toNat i) tIns.dflt).2.1 i (n, m)).2).1.2)])))) <|
     .ret (.tup [.agg [.int .i64 (minF ([((spanM t k (t.2.2.2.1.getD (Int.toNat i) tIns.dflt).2.1 i (n, m)).1.1 * (spanM t k (t.2.2.2.1.getD (Int.toNat i) tIns.dflt).2.2.1 i (spanM t k (t.2.2.2.1.getD (Int.toNat i) tIns.dflt).2.1 i (n, m)).2).1.1), ((spanM t k (t.2.2.2.1.getD (Int.toNat i) tIns.dflt).2.1 i (n, m)).1.1 * (spanM t k (t.2.2.2.1.getD (Int.toNat i) tIns.dflt).2.2.1 i (spanM t k (t.2.2.2.1.getD (Int.toNat i) tIns.dflt).2.1 i (n, m)).2).1.2), ((spanM t k (t.2.2.2.1.getD (Int.toNat i) tIns.dflt).2.1 i (n, m)).1.2 * (spanM t k (t.2.2.2.1.getD (Int.toNat i) tIns.dflt).2.2.1 i (spanM t k (t.2.2.2.1.getD (Int.toNat i) tIns.dflt).2.1 i (n, m)).2).1.1), ((spanM t k (t.2.2.2.1.getD (Int.toNat i) tIns.dflt).2.1 i (n, m)).1.2 * (spanM t k (t.2.2.2.1.getD (Int.toNat i) tIns.dflt).2.2.1 i (spanM t k (t.2.2.2.1.getD (Int.toNat i) tIns.dflt).2.1 i (n, m)).2).1.2)])), .int .i64 (maxF ([((spanM t k (t.2.2.2.1.getD (Int.toNat i) tIns.dflt).2.1 i (n, m)).1.1 * (spanM t k (t.2.2.2.1.getD (Int.toNat i) tIns.dflt).2.2.1 i (spanM t k (t.2.2.2.1.getD (Int.toNat i) tIns.dflt).2.1 i (n, m)).2).1.1), ((spanM t k (t.2.2.2.1.getD (Int.toNat i) tIns.dflt).2.1 i (n, m)).1.1 * (spanM t k (t.2.2.2.1.getD (Int.toNat i) tIns.dflt).2.2.1 i (spanM t k (t.2.2.2.1.getD (Int.toNat i) tIns.dflt).2.1 i (n, m)).2).1.2), ((spanM t k (t.2.2.2.1.getD (Int.toNat i) tIns.dflt).2.1 i (n, m)).1.2 * (spanM t k (t.2.2.2.1.getD (Int.toNat i) tIns.dflt).2.2.1 i (spanM t k (t.2.2.2.1.getD (Int.toNat i) tIns.dflt).2.1 i (n, m)).2).1.1), ((spanM t k (t.2.2.2.1.getD (Int.toNat i) tIns.dflt).2.1 i (n, m)).1.2 * (spanM t k (t.2.2.2.1.getD (Int.toNat i) tIns.dflt).2.2.1 i (spanM t k (t.2.2.2.1.getD (Int.toNat i) tIns.dflt).2.1 i (n, m)).2).1.2)]))], .c (.lit true)]) [.cells 128 (Ty.enc tTrace t ++ [.map 1]), .map 164 tVal tVal (spanM t k (t.2.2.2.1.getD (Int.toNat i) tIns.dflt).2.2.1 i (spanM t k (t.2.2.2.1.getD (Int.toNat i) tIns.dflt).2.1 i (n, m)).2).2.1 (spanM t k (t.2.2.2.1.getD (Int.toNat i) tIns.dflt).2.2.1 i (spanM t k (t.2.2.2.1.getD (Int.toNat i) tIns.dflt).2.1 i (n, m)).2).2.2, .cells 130 [.int .i64 (minF ([((spanM t k (t.2.2.2.1.getD (Int.toNat i) tIns.dflt).2.1 i (n, m)).1.1 * (spanM t k (t.2.2.2.1.getD (Int.toNat i) tIns.dflt).2.2.1 i (spanM t k (t.2.2.2.1.getD (Int.toNat i) tIns.dflt).2.1 i (n, m)).2).1.1), ((spanM t k (t.2.2.2.1.getD (Int.toNat i) tIns.dflt).2.1 i (n, m)).1.1 * (spanM t k (t.2.2.2.1.getD (Int.toNat i) tIns.dflt).2.2.1 i (spanM t k (t.2.2.2.1.getD (Int.toNat i) tIns.dflt).2.1 i (n, m)).2).1.2), ((spanM t k (t.2.2.2.1.getD (Int.toNat i) tIns.dflt).2.1 i (n, m)).1.2 * (spanM t k (t.2.2.2.1.getD (Int.toNat i) tIns.dflt).2.2.1 i (spanM t k (t.2.2.2.1.getD (Int.toNat i) tIns.dflt).2.1 i (n, m)).2).1.1), ((spanM t k (t.2.2.2.1.getD (Int.toNat i) tIns.dflt).2.1 i (n, m)).1.2 * (spanM t k (t.2.2.2.1.getD (Int.toNat i) tIns.dflt).2.2.1 i (spanM t k (t.2.2.2.1.getD (Int.toNat i) tIns.dflt).2.1 i (n, m)).2).1.2)])), .int .i64 (maxF ([((spanM t k (t.2.2.2.1.getD (Int.toNat i) tIns.dflt).2.1 i (n, m)).1.1 * (spanM t k (t.2.2.2.1.getD (Int.toNat i) tIns.dflt).2.2.1 i (spanM t k (t.2.2.2.1.getD (Int.toNat i) tIns.dflt).2.1 i (n, m)).2).1.1), ((spanM t k (t.2.2.2.1.getD (Int.toNat i) tIns.dflt).2.1 i (n, m)).1.1 * (spanM t k (t.2.2.2.1.getD (Int.toNat i) tIns.dflt).2.2.1 i (spanM t k (t.2.2.2.1.getD (Int.toNat i) tIns.dflt).2.1 i (n, m)).2).1.2), ((spanM t k (t.2.2.2.1.getD (Int.toNat i) tIns.dflt).2.1 i (n, m)).1.2 * (spanM t k (t.2.2.2.1.getD (Int.toNat i) tIns.dflt).2.2.1 i (spanM t k (t.2.2.2.1.getD (Int.toNat i) tIns.dflt).2.1 i (n, m)).2).1.1), ((spanM t k (t.2.2.2.1.getD (Int.toNat i) tIns.dflt).2.1 i (n, m)).1.2 * (spanM t k (t.2.2.2.1.getD (Int.toNat i) tIns.dflt).2.2.1 i (spanM t k (t.2.2.2.1.getD (Int.toNat i) tIns.dflt).2.1 i (n, m)).2).1.2)]))], .cells 46 (Ty.enc tIns (t.2.2.2.1.getD (Int.toNat i) tIns.dflt)), .cells 130 [.int .i64 (spanM t k (t.2.2.2.1.getD (Int.toNat i) tIns.dflt).2.1 i (n, m)).1.1, .int .i64 (spanM t k (t.2.2.2.1.getD (Int.toNat i) tIns.dflt).2.1 i (n, m)).1.2], .cells 130 [.int .i64 (spanM t k (t.2.2.2.1.getD (Int.toNat i) tIns.dflt).2.2.1 i (spanM t k (t.2.2.2.1.getD (Int.toNat i) tIns.dflt).2.1 i (n, m)).2).1.1, .int .i64 (spanM t k (t.2.2.2.1.getD (Int.toNat i) tIns.dflt).2.2.1 i (spanM t k (t.2.2.2.1.getD (Int.toNat i) tIns.dflt).2.1 i (n, m)).2).1.2], .vec 3 tI ([((spanM t k (t.2.2.2.1.getD (Int.toNat i) tIns.dflt).2.1 i (n, m)).1.1 * (spanM t k (t.2.2.2.1.getD (Int.toNat i) tIns.dflt).2.2.1 i (spanM t k (t.2.2.2.1.getD (Int.toNat i) tIns.dflt).2.1 i (n, m)).2).1.1), ((spanM t k (t.2.2.2.1.getD (Int.toNat i) tIns.dflt).2.1 i (n, m)).1.1 * (spanM t k (t.2.2.2.1.getD (Int.toNat i) tIns.dflt).2.2.1 i (spanM t k (t.2.2.2.1.getD (Int.toNat i) tIns.dflt).2.1 i (n, m)).2).1.2), ((spanM t k (t.2.2.2.1.getD (Int.toNat i) tIns.dflt).2.1 i (n, m)).1.2 * (spanM t k (t.2.2.2.1.getD (Int.toNat i) tIns.dflt).2.2.1 i (spanM t k (t.2.2.2.1.getD (Int.toNat i) tIns.dflt).2.1 i (n, m)).2).1.1), ((spanM t k (t.2.2.2.1.getD (Int.toNat i) tIns.dflt).2.1 i (n, m)).1.2 * (spanM t k (t.2.2.2.1.getD (Int.toNat i) tIns.dflt).2.2.1 i (spanM t k (t.2.2.2.1.getD (Int.toNat i) tIns.dflt).2.1 i (n, m)).2).1.2)])])
    (.ret (.tup [.agg [.int .i64 0, .int .i64 0], .c (.lit false)]) [.cells 128 (Ty.enc tTrace t ++ [.map 1]), .map 164 tVal tVal (spanM t k (t.2.2.2.1.getD (Int.toNat i) tIns.dflt).2.2.1 i (spanM t k (t.2.2.2.1.getD (Int.toNat i) tIns.dflt).2.1 i (n, m)).2).2.1 (spanM t k (t.2.2.2.1.getD (Int.toNat i) tIns.dflt).2.2.1 i (spanM t k (t.2.2.2.1.getD (Int.toNat i) tIns.dflt).2.1 i (n, m)).2).2.2, .cells 130 [.int .i64 0, .int .i64 0], .cells 46 (Ty.enc tIns (t.2.2.2.1.getD (Int.toNat i) tIns.dflt)), .cells 130 [.int .i64 (spanM t k (t.2.2.2.1.getD (Int.toNat i) tIns.dflt).2.1 i (n, m)).1.1, .int .i64 (spanM t k (t.2.2.2.1.getD (Int.toNat i) tIns.dflt).2.1 i (n, m)).1.2], .cells 130 [.int .i64 (spanM t k (t.2.2.2.1.getD (Int.toNat i) tIns.dflt).2.2.1 i (spanM t k (t.2.2.2.1.getD (Int.toNat i) tIns.dflt).2.1 i (n, m)).2).1.1, .int .i64 (spanM t k (t.2.2.2.1.getD (Int.toNat i) tIns.dflt).2.2.1 i (spanM t k (t.2.2.2.1.getD (Int.toNat i) tIns.dflt).2.1 i (n, m)).2).1.2]])))
theorem reck_T_ok (t : ETrace) (n : Nat) (m : EVal → Option EVal) (i : Int) (k : Nat) : aRun Tryd.prog (oc104 k) Tryd.f101 reck_lv 3000 [.code (bodyOf Tryd.f101)] ([.c (.ptr 0 0 0 0), .c (.int .i64 i)] ++ List.replicate (Func.ntmps Tryd.f101 - 2) .junk) [.cells 128 (Ty.enc tTrace t ++ [.map 1]), .map 164 tVal tVal n m] = reck_T t n m i k := by kernel_rfl
theorem reck_fun (t : ETrace) (n : Nat) (m : EVal → Option EVal) (i : Int) (k : Nat) (bd : Int) (hd : DomC t) (hr : SpanC t k bd) (hk : bd.toNat ≤ k) (hbl : bd ≤ (t.2.2.2.1.length : Int)) (hm : KeptOk t (n, m)) (hi : 0 ≤ i ∧ i < bd) (ho : (t.2.2.2.1.getD (Int.toNat i) tIns.dflt).1 = 7) : AFunH Tryd.prog 101 [.c (.ptr 0 0 0 0), .c (.int .i64 i)] [.cells 128 (Ty.enc tTrace t ++ [.map 1]), .map 164 tVal tVal n m] (.tup [.agg (Ty.enc tVal ((reckM (spanM t k) t i (n, m)).1.1)), .c (.bool ((reckM (spanM t k) t i (n, m)).1.2))]) [.cells 128 (Ty.enc tTrace t ++ [.map 1]), .map 164 tVal tVal (reckM (spanM t k) t i (n, m)).2.1 (reckM (spanM t k) t i (n, m)).2.2] (List.range 2) :=
  AFunH.ofL (oc104 k) reck_lv 3000 Tryd.func101 mixed rfl (by decide) (Nat.le_of_ble_eq_true rfl) rfl rfl (Nat.le_of_ble_eq_true rfl) _ (reck_T_ok t n m i k) fun hF => by
    obtain ⟨a0, a1, b0, b1⟩ : 0 ≤ (t.2.2.2.1.getD (Int.toNat i) tIns.dflt).2.1 ∧ (t.2.2.2.1.getD (Int.toNat i) tIns.dflt).2.1 < i ∧ 0 ≤ (t.2.2.2.1.getD (Int.toNat i) tIns.dflt).2.2.1 ∧ (t.2.2.2.1.getD (Int.toNat i) tIns.dflt).2.2.1 < i := hd.bin i (by omega) (by omega) ho
    obtain ⟨eA, kA, _⟩ := spanM_ok hd.toDomT k (t.2.2.2.1.getD (Int.toNat i) tIns.dflt).2.1 i (n, m) (by omega) a0 a1 (by omega) hm
    have iA : InB (spanM t k (t.2.2.2.1.getD (Int.toNat i) tIns.dflt).2.1 i (n, m)).1 := by rw [eA]; exact spanF_in hd a0 a1 (by omega)
    obtain ⟨eB, kB, _⟩ := spanM_ok hd.toDomT k (t.2.2.2.1.getD (Int.toNat i) tIns.dflt).2.2.1 i (spanM t k (t.2.2.2.1.getD (Int.toNat i) tIns.dflt).2.1 i (n, m)).2 (by omega) b0 b1 (by omega) kA
    have iB : InB (spanM t k (t.2.2.2.1.getD (Int.toNat i) tIns.dflt).2.2.1 i (spanM t k (t.2.2.2.1.getD (Int.toNat i) tIns.dflt).2.1 i (n, m)).2).1 := by rw [eB]; exact spanF_in hd b0 b1 (by omega)
    unfold InB at iA iB
    have p1 := mul_in (a := (spanM t k (t.2.2.2.1.getD (Int.toNat i) tIns.dflt).2.1 i (n, m)).1.1) (b := (spanM t k (t.2.2.2.1.getD (Int.toNat i) tIns.dflt).2.2.1 i (spanM t k (t.2.2.2.1.getD (Int.toNat i) tIns.dflt).2.1 i (n, m)).2).1.1) (by omega) (by omega)
    have p2 := mul_in (a := (spanM t k (t.2.2.2.1.getD (Int.toNat i) tIns.dflt).2.1 i (n, m)).1.1) (b := (spanM t k (t.2.2.2.1.getD (Int.toNat i) tIns.dflt).2.2.1 i (spanM t k (t.2.2.2.1.getD (Int.toNat i) tIns.dflt).2.1 i (n, m)).2).1.2) (by omega) (by omega)
    have p3 := mul_in (a := (spanM t k (t.2.2.2.1.getD (Int.toNat i) tIns.dflt).2.1 i (n, m)).1.2) (b := (spanM t k (t.2.2.2.1.getD (Int.toNat i) tIns.dflt).2.2.1 i (spanM t k (t.2.2.2.1.getD (Int.toNat i) tIns.dflt).2.1 i (n, m)).2).1.1) (by omega) (by omega)
    have p4 := mul_in (a := (spanM t k (t.2.2.2.1.getD (Int.toNat i) tIns.dflt).2.1 i (n, m)).1.2) (b := (spanM t k (t.2.2.2.1.getD (Int.toNat i) tIns.dflt).2.2.1 i (spanM t k (t.2.2.2.1.getD (Int.toNat i) tIns.dflt).2.1 i (n, m)).2).1.2) (by omega) (by omega)
    unfold reck_T
    refine g_need (by omega) ?_
    refine g_need (by omega) ?_
    refine g_callH (AFunH.frameB [0, 1] (hr (t.2.2.2.1.getD (Int.toNat i) tIns.dflt).2.1 i n m (by omega) (by omega) (by omega) (by first | exact hm | exact kA | exact kB | exact kC | exact kD)) rfl rfl rfl rfl rfl rfl rfl) ?_
    refine g_callH (AFunH.frameB [0, 1] (hr (t.2.2.2.1.getD (Int.toNat i) tIns.dflt).2.2.1 i (spanM t k (t.2.2.2.1.getD (Int.toNat i) tIns.dflt).2.1 i (n, m)).2.1 (spanM t k (t.2.2.2.1.getD (Int.toNat i) tIns.dflt).2.1 i (n, m)).2.2 (by omega) (by omega) (by omega) (by first | exact hm | exact kA | exact kB | exact kC | exact kD)) rfl rfl rfl rfl rfl rfl rfl) ?_
    refine g_iteD (fun h0 => ?_) (fun h0 => ?_)
    · refine g_need (by first | (rw [i64_iff]; omega) | omega | (constructor <;> omega) | (rw [i64_iff]; omega) | (rw [i64_iff]; constructor <;> omega) | rfl | (simp; done)) ?_
      refine g_need (by first | (rw [i64_iff]; omega) | omega | (constructor <;> omega) | (rw [i64_iff]; omega) | (rw [i64_iff]; constructor <;> omega) | rfl | (simp; done)) ?_
      first | rw [reckM_add (t := t) (i := i) h0] | rw [reckM_sub (t := t) (i := i) h0 h1] | rw [reckM_mul (t := t) (i := i) h0 h1 h2 rfl rfl] | rw [reckM_no (t := t) (i := i) h0 h1 h2]
      refine g_fin ?_
      exact g_end [0, 1] (show ∀ k, k < 2 → ([0, 1] : List Nat)[k]? = some k by decide) (by decide) (⟨⟨⟨rfl, rfl⟩, ⟨rfl, rfl⟩, trivial⟩, rfl, trivial⟩) ⟨leB.refl _, rfl, trivial⟩
    · refine g_iteD (fun h1 => ?_) (fun h1 => ?_)
      · refine g_need (by first | (rw [i64_iff]; omega) | omega | (constructor <;> omega) | (rw [i64_iff]; omega) | (rw [i64_iff]; constructor <;> omega) | rfl | (simp; done)) ?_
        refine g_need (by first | (rw [i64_iff]; omega) | omega | (constructor <;> omega) | (rw [i64_iff]; omega) | (rw [i64_iff]; constructor <;> omega) | rfl | (simp; done)) ?_
        first | rw [reckM_add (t := t) (i := i) h0] | rw [reckM_sub (t := t) (i := i) h0 h1] | rw [reckM_mul (t := t) (i := i) h0 h1 h2 rfl rfl] | rw [reckM_no (t := t) (i := i) h0 h1 h2]
        refine g_fin ?_
        exact g_end [0, 1] (show ∀ k, k < 2 → ([0, 1] : List Nat)[k]? = some k by decide) (by decide) (⟨⟨⟨rfl, rfl⟩, ⟨rfl, rfl⟩, trivial⟩, rfl, trivial⟩) ⟨leB.refl _, rfl, trivial⟩
      · refine g_iteD (fun h2 => ?_) (fun h2 => ?_)
        · refine g_need (by first | (rw [i64_iff]; omega) | omega | (constructor <;> omega) | (rw [i64_iff]; omega) | (rw [i64_iff]; constructor <;> omega) | rfl | (simp; done)) ?_
          refine g_need (by first | (rw [i64_iff]; omega) | omega | (constructor <;> omega) | (rw [i64_iff]; omega) | (rw [i64_iff]; constructor <;> omega) | rfl | (simp; done)) ?_
          refine g_need (by first | (rw [i64_iff]; omega) | omega | (constructor <;> omega) | (rw [i64_iff]; omega) | (rw [i64_iff]; constructor <;> omega) | rfl | (simp; done)) ?_
          refine g_need (by first | (rw [i64_iff]; omega) | omega | (constructor <;> omega) | (rw [i64_iff]; omega) | (rw [i64_iff]; constructor <;> omega) | rfl | (simp; done)) ?_
          refine g_need (by first | (rw [i64_iff]; omega) | omega | (constructor <;> omega) | (rw [i64_iff]; omega) | (rw [i64_iff]; constructor <;> omega) | rfl | (simp; done)) ?_
          refine g_call (min_fun ([((spanM t k (t.2.2.2.1.getD (Int.toNat i) tIns.dflt).2.1 i (n, m)).1.1 * (spanM t k (t.2.2.2.1.getD (Int.toNat i) tIns.dflt).2.2.1 i (spanM t k (t.2.2.2.1.getD (Int.toNat i) tIns.dflt).2.1 i (n, m)).2).1.1), ((spanM t k (t.2.2.2.1.getD (Int.toNat i) tIns.dflt).2.1 i (n, m)).1.1 * (spanM t k (t.2.2.2.1.getD (Int.toNat i) tIns.dflt).2.2.1 i (spanM t k (t.2.2.2.1.getD (Int.toNat i) tIns.dflt).2.1 i (n, m)).2).1.2), ((spanM t k (t.2.2.2.1.getD (Int.toNat i) tIns.dflt).2.1 i (n, m)).1.2 * (spanM t k (t.2.2.2.1.getD (Int.toNat i) tIns.dflt).2.2.1 i (spanM t k (t.2.2.2.1.getD (Int.toNat i) tIns.dflt).2.1 i (n, m)).2).1.1), ((spanM t k (t.2.2.2.1.getD (Int.toNat i) tIns.dflt).2.1 i (n, m)).1.2 * (spanM t k (t.2.2.2.1.getD (Int.toNat i) tIns.dflt).2.2.1 i (spanM t k (t.2.2.2.1.getD (Int.toNat i) tIns.dflt).2.1 i (n, m)).2).1.2)]) (by simp)) (fun _ => rfl) ?_
          refine g_need (by first | (rw [i64_iff]; omega) | omega | (constructor <;> omega) | (rw [i64_iff]; omega) | (rw [i64_iff]; constructor <;> omega) | rfl | (simp; done)) ?_
          refine g_call (max_fun ([((spanM t k (t.2.2.2.1.getD (Int.toNat i) tIns.dflt).2.1 i (n, m)).1.1 * (spanM t k (t.2.2.2.1.getD (Int.toNat i) tIns.dflt).2.2.1 i (spanM t k (t.2.2.2.1.getD (Int.toNat i) tIns.dflt).2.1 i (n, m)).2).1.1), ((spanM t k (t.2.2.2.1.getD (Int.toNat i) tIns.dflt).2.1 i (n, m)).1.1 * (spanM t k (t.2.2.2.1.getD (Int.toNat i) tIns.dflt).2.2.1 i (spanM t k (t.2.2.2.1.getD (Int.toNat i) tIns.dflt).2.1 i (n, m)).2).1.2), ((spanM t k (t.2.2.2.1.getD (Int.toNat i) tIns.dflt).2.1 i (n, m)).1.2 * (spanM t k (t.2.2.2.1.getD (Int.toNat i) tIns.dflt).2.2.1 i (spanM t k (t.2.2.2.1.getD (Int.toNat i) tIns.dflt).2.1 i (n, m)).2).1.1), ((spanM t k (t.2.2.2.1.getD (Int.toNat i) tIns.dflt).2.1 i (n, m)).1.2 * (spanM t k (t.2.2.2.1.getD (Int.toNat i) tIns.dflt).2.2.1 i (spanM t k (t.2.2.2.1.getD (Int.toNat i) tIns.dflt).2.1 i (n, m)).2).1.2)]) (by simp)) (fun _ => rfl) ?_
          first | rw [reckM_add (t := t) (i := i) h0] | rw [reckM_sub (t := t) (i := i) h0 h1] | rw [reckM_mul (t := t) (i := i) h0 h1 h2 rfl rfl] | rw [reckM_no (t := t) (i := i) h0 h1 h2]
          refine g_fin ?_
          exact g_end [0, 1] (show ∀ k, k < 2 → ([0, 1] : List Nat)[k]? = some k by decide) (by decide) (⟨⟨⟨rfl, rfl⟩, ⟨rfl, rfl⟩, trivial⟩, rfl, trivial⟩) ⟨leB.refl _, rfl, trivial⟩
        · first | rw [reckM_add (t := t) (i := i) h0] | rw [reckM_sub (t := t) (i := i) h0 h1] | rw [reckM_mul (t := t) (i := i) h0 h1 h2 rfl rfl] | rw [reckM_no (t := t) (i := i) h0 h1 h2]
          refine g_fin ?_
          exact g_end [0, 1] (show ∀ k, k < 2 → ([0, 1] : List Nat)[k]? = some k by decide) (by decide) (⟨⟨⟨rfl, rfl⟩, ⟨rfl, rfl⟩, trivial⟩, rfl, trivial⟩) ⟨leB.refl _, rfl, trivial⟩

section
variable {M : Type} {rec : Int → Int → M → EVal × M} {s : EVal} {v a b d i : Int} {m : M}
theorem narLo_1 (h0 : v = b) (h1 : max2 s.1 ((rec a i m).1.1 + d) ≤ s.2) : narLo rec s v a b d i m = ((max2 s.1 ((rec a i m).1.1 + d), s.2), (rec a i m).2) := by rw [narLo, if_pos h0, loB, if_pos h1]
theorem narLo_2 (h0 : v = b) (h1 : ¬ max2 s.1 ((rec a i m).1.1 + d) ≤ s.2) : narLo rec s v a b d i m = (s, (rec a i m).2) := by rw [narLo, if_pos h0, loB, if_neg h1]
theorem narLo_3 (h0 : ¬ v = b) : narLo rec s v a b d i m = (s, m) := if_neg h0
theorem narHi_1 (h0 : v = a) (h1 : s.1 ≤ min2 s.2 ((rec b i m).1.2 - d)) : narHi rec s v a b d i m = ((s.1, min2 s.2 ((rec b i m).1.2 - d)), (rec b i m).2) := by rw [narHi, if_pos h0, hiB, if_pos h1]
theorem narHi_2 (h0 : v = a) (h1 : ¬ s.1 ≤ min2 s.2 ((rec b i m).1.2 - d)) : narHi rec s v a b d i m = (s, (rec b i m).2) := by rw [narHi, if_pos h0, hiB, if_neg h1]
theorem narHi_3 (h0 : ¬ v = a) : narHi rec s v a b d i m = (s, m) := if_neg h0
end
noncomputable def oc105 (k : Nat) : Orc where
  pure := fun f args => match f, args with
    | _, _ => none
  heap := fun f args H => match f, args with
    | 62, [.one (.c (.ptr b0 0 0 0)), a1, a2] => match cellsAs 128 H[b0]? with
      | some [c0_0_0, c0_0_1, c0_0_2, c0_0_3, c0_0_4, c0_0_5, c0_0_6, c0_0_7, c0_0_8, c0_0_9, c0_0_10, c0_0_11, c0_0_12, .map b1] => (match dA tI a1, dA tI a2, dCs tTrace [c0_0_0, c0_0_1, c0_0_2, c0_0_3, c0_0_4, c0_0_5, c0_0_6, c0_0_7, c0_0_8, c0_0_9, c0_0_10, c0_0_11, c0_0_12], mapAs 164 tVal tVal H[b1]? with
        | some x1, some x2, some y0_0, some (n1, y1) => hres [b0, b1] H (.agg (Ty.enc tVal ((spanM y0_0 k x1 x2 (n1, y1)).1))) [.cells 128 [.int .i64 y0_0.1, .int .i64 y0_0.2.1, .int .i64 y0_0.2.2.1, .ro tIns y0_0.2.2.2.1, .ro tExit y0_0.2.2.2.2.1, .int .i64 y0_0.2.2.2.2.2.1.1, .int .i64 y0_0.2.2.2.2.2.1.2.1, .ro tVal y0_0.2.2.2.2.2.1.2.2.1, .ro tMake y0_0.2.2.2.2.2.1.2.2.2, .int .i64 y0_0.2.2.2.2.2.2.1, .int .i64 y0_0.2.2.2.2.2.2.2.1, .ro tVal y0_0.2.2.2.2.2.2.2.2.1, .ro tMake y0_0.2.2.2.2.2.2.2.2.2, .map 1], .map 164 tVal tVal (spanM y0_0 k x1 x2 (n1, y1)).2.1 (spanM y0_0 k x1 x2 (n1, y1)).2.2]
        | _, _, _, _ => none)
      | _ => none
    | _, _ => none
def narrow_lv : LV := ⟨(true :: false :: true :: true :: true :: true :: true :: false :: true :: F4 (false :: true :: F32 (F8 (false :: [])))), [5]⟩
noncomputable def narrow_T (t : ETrace) (n : Nat) (m : EVal → Option EVal) (s : EVal) (v : Int) (a : Int) (b : Int) (d : Int) (q : Int) (k : Nat) : Tree :=
  .ite (decide (v = a))
  (.callH 62 [.c (.ptr 0 0 0 0), .c (.int .i64 b), .c (.int .i64 q)] [.cells 128 (Ty.enc tTrace t ++ [.map 1]), .map 164 tVal tVal n m, .cells 130 (Ty.enc tVal s), .cells 130 [.int .i64 0, .int .i64 0]] (.agg [.int .i64 (spanM t k b q (n, m)).1.1, .int .i64 (spanM t k b q (n, m)).1.2]) [.cells 128 (Ty.enc tTrace t ++ [.map 1]), .map 164 tVal tVal (spanM t k b q (n, m)).2.1 (spanM t k b q (n, m)).2.2, .cells 130 (Ty.enc tVal s), .cells 130 [.int .i64 0, .int .i64 0]] [0, 1] <|
   .need (inR .i64 ((spanM t k b q (n, m)).1.2 - d)) <|
   .need (inR .i64 ((spanM t k b q (n, m)).1.2 - d)) <|
   .ite (decide (s.1 ≤ (if ((spanM t k b q (n, m)).1.2 - d) < s.2 then ((spanM t k b q (n, m)).1.2 - d) else s.2)))
   (.stop (rg (bodyOf Tryd.f97) 5) (.c (.ptr 0 0 0 0) :: .junk :: .c (.int .i64 v) :: .c (.int .i64 a) :: .c (.int .i64 b) :: .c (.int .i64 d) :: .c (.int .i64 q) :: .junk :: .c (.ptr 2 0 0 0) :: J4 (.junk :: .c (.ptr 3 0 0 0) :: J32 (J8 (.junk :: [])))) [.cells 128 (Ty.enc tTrace t ++ [.map 1]), .map 164 tVal tVal (spanM t k b q (n, m)).2.1 (spanM t k b q (n, m)).2.2, .cells 130 [.int .i64 s.1, .int .i64 (if ((spanM t k b q (n, m)).1.2 - d) < s.2 then ((spanM t k b q (n, m)).1.2 - d) else s.2)], .cells 130 [.int .i64 0, .int .i64 0]])
   (.stop (rg (bodyOf Tryd.f97) 5) (.c (.ptr 0 0 0 0) :: .junk :: .c (.int .i64 v) :: .c (.int .i64 a) :: .c (.int .i64 b) :: .c (.int .i64 d) :: .c (.int .i64 q) :: .junk :: .c (.ptr 2 0 0 0) :: J4 (.junk :: .c (.ptr 3 0 0 0) :: J32 (J8 (.junk :: [])))) [.cells 128 (Ty.enc tTrace t ++ [.map 1]), .map 164 tVal tVal (spanM t k b q (n, m)).2.1 (spanM t k b q (n, m)).2.2, .cells 130 (Ty.enc tVal s), .cells 130 [.int .i64 0, .int .i64 0]]))
  (.stop (rg (bodyOf Tryd.f97) 5) (.c (.ptr 0 0 0 0) :: .junk :: .c (.int .i64 v) :: .c (.int .i64 a) :: .c (.int .i64 b) :: .c (.int .i64 d) :: .c (.int .i64 q) :: .junk :: .c (.ptr 2 0 0 0) :: J4 (.junk :: .c (.ptr 3 0 0 0) :: J32 (J8 (.junk :: [])))) [.cells 128 (Ty.enc tTrace t ++ [.map 1]), .map 164 tVal tVal n m, .cells 130 (Ty.enc tVal s), .cells 130 [.int .i64 0, .int .i64 0]])
theorem narrow_T_ok (t : ETrace) (n : Nat) (m : EVal → Option EVal) (s : EVal) (v : Int) (a : Int) (b : Int) (d : Int) (q : Int) (k : Nat) : aRun Tryd.prog (oc105 k) Tryd.f97 narrow_lv 3000 [.code (bodyOf Tryd.f97)] ([.c (.ptr 0 0 0 0), .agg (tVal.enc s), .c (.int .i64 v), .c (.int .i64 a), .c (.int .i64 b), .c (.int .i64 d), .c (.int .i64 q)] ++ List.replicate (Func.ntmps Tryd.f97 - 7) .junk) [.cells 128 (Ty.enc tTrace t ++ [.map 1]), .map 164 tVal tVal n m] = narrow_T t n m s v a b d q k := by kernel_rfl
noncomputable def narrow_r5_R (t : ETrace) (n : Nat) (m : EVal → Option EVal) (s : EVal) (v : Int) (a : Int) (b : Int) (d : Int) (q : Int) (k : Nat) (n1 : Nat) (m1 : EVal → Option EVal) (s0 : Int) (s1 : Int) : Tree :=
  .ite (decide (v = b))
  (.callH 62 [.c (.ptr 0 0 0 0), .c (.int .i64 a), .c (.int .i64 q)] [.cells 128 (Ty.enc tTrace t ++ [.map 1]), .map 164 tVal tVal n1 m1, .cells 130 [.int .i64 s0, .int .i64 s1], .cells 130 [.int .i64 0, .int .i64 0]] (.agg [.int .i64 (spanM t k a q (n1, m1)).1.1, .int .i64 (spanM t k a q (n1, m1)).1.2]) [.cells 128 (Ty.enc tTrace t ++ [.map 1]), .map 164 tVal tVal (spanM t k a q (n1, m1)).2.1 (spanM t k a q (n1, m1)).2.2, .cells 130 [.int .i64 s0, .int .i64 s1], .cells 130 [.int .i64 0, .int .i64 0]] [0, 1] <|
   .need (inR .i64 ((spanM t k a q (n1, m1)).1.1 + d)) <|
   .need (inR .i64 ((spanM t k a q (n1, m1)).1.1 + d)) <|
   .ite (decide ((if ((spanM t k a q (n1, m1)).1.1 + d) > s0 then ((spanM t k a q (n1, m1)).1.1 + d) else s0) ≤ s1))
   (.ret (.agg [.int .i64 (if ((spanM t k a q (n1, m1)).1.1 + d) > s0 then ((spanM t k a q (n1, m1)).1.1 + d) else s0), .int .i64 s1]) [.cells 128 (Ty.enc tTrace t ++ [.map 1]), .map 164 tVal tVal (spanM t k a q (n1, m1)).2.1 (spanM t k a q (n1, m1)).2.2, .cells 130 [.int .i64 (if ((spanM t k a q (n1, m1)).1.1 + d) > s0 then ((spanM t k a q (n1, m1)).1.1 + d) else s0), .int .i64 s1], .cells 130 [.int .i64 (if ((spanM t k a q (n1, m1)).1.1 + d) > s0 then ((spanM t k a q (n1, m1)).1.1 + d) else s0), .int .i64 s1]])
   (.ret (.agg [.int .i64 s0, .int .i64 s1]) [.cells 128 (Ty.enc tTrace t ++ [.map 1]), .map 164 tVal tVal (spanM t k a q (n1, m1)).2.1 (spanM t k a q (n1, m1)).2.2, .cells 130 [.int .i64 s0, .int .i64 s1], .cells 130 [.int .i64 s0, .int .i64 s1]]))
  (.ret (.agg [.int .i64 s0, .int .i64 s1]) [.cells 128 (Ty.enc tTrace t ++ [.map 1]), .map 164 tVal tVal n1 m1, .cells 130 [.int .i64 s0, .int .i64 s1], .cells 130 [.int .i64 s0, .int .i64 s1]])
theorem narrow_r5_R_ok (t : ETrace) (n : Nat) (m : EVal → Option EVal) (s : EVal) (v : Int) (a : Int) (b : Int) (d : Int) (q : Int) (k : Nat) (n1 : Nat) (m1 : EVal → Option EVal) (s0 : Int) (s1 : Int) : aRound Tryd.prog (oc105 k) Tryd.f97 narrow_lv 3000 (rg (bodyOf Tryd.f97) 5) (.c (.ptr 0 0 0 0) :: .junk :: .c (.int .i64 v) :: .c (.int .i64 a) :: .c (.int .i64 b) :: .c (.int .i64 d) :: .c (.int .i64 q) :: .junk :: .c (.ptr 2 0 0 0) :: J4 (.junk :: .c (.ptr 3 0 0 0) :: J32 (J8 (.junk :: [])))) [.cells 128 (Ty.enc tTrace t ++ [.map 1]), .map 164 tVal tVal n1 m1, .cells 130 [.int .i64 s0, .int .i64 s1], .cells 130 [.int .i64 0, .int .i64 0]] = narrow_r5_R t n m s v a b d q k n1 m1 s0 s1 := by kernel_rfl
theorem narrow_r5 (t : ETrace) (n : Nat) (m : EVal → Option EVal) (s : EVal) (v : Int) (a : Int) (b : Int) (d : Int) (q : Int) (k : Nat) (n1 : Nat) (m1 : EVal → Option EVal) (s0 : Int) (s1 : Int) (bd : Int) (hd : DomC t) (hr : SpanC t k bd) (hk : bd.toNat ≤ k) (hbl : bd ≤ (t.2.2.2.1.length : Int)) (hq : q < bd) (ha : 0 ≤ a ∧ a < q) (hb : 0 ≤ b ∧ b < q) (hd2 : 0 ≤ d ∧ d ≤ 1) (hm : KeptOk t (n1, m1)) : RunN 2 Tryd.prog 97 (finQ Tryd.prog 2 (.agg (Ty.enc tVal ((narLo (spanM t k) (s0, s1) v a b d q (n1, m1)).1))) [.cells 128 (Ty.enc tTrace t ++ [.map 1]), .map 164 tVal tVal (narLo (spanM t k) (s0, s1) v a b d q (n1, m1)).2.1 (narLo (spanM t k) (s0, s1) v a b d q (n1, m1)).2.2]) (rg (bodyOf Tryd.f97) 5) (.c (.ptr 0 0 0 0) :: .junk :: .c (.int .i64 v) :: .c (.int .i64 a) :: .c (.int .i64 b) :: .c (.int .i64 d) :: .c (.int .i64 q) :: .junk :: .c (.ptr 2 0 0 0) :: J4 (.junk :: .c (.ptr 3 0 0 0) :: J32 (J8 (.junk :: [])))) [.cells 128 (Ty.enc tTrace t ++ [.map 1]), .map 164 tVal tVal n1 m1, .cells 130 [.int .i64 s0, .int .i64 s1], .cells 130 [.int .i64 0, .int .i64 0]] :=
  Run.roundA (oc105 k) narrow_lv 3000 Tryd.func97 mixed (narrow_r5_R t n m s v a b d q k n1 m1 s0 s1) (narrow_r5_R_ok t n m s v a b d q k n1 m1 s0 s1) (by
    unfold narrow_r5_R
    obtain ⟨eA, kA, _⟩ := spanM_ok hd.toDomT k a q (n1, m1) (by omega) ha.1 ha.2 (by omega) hm
    have iA : InB (spanM t k a q (n1, m1)).1 := by rw [eA]; exact spanF_in hd ha.1 ha.2 (by omega)
    unfold InB at iA
    refine g_iteD (fun h0 => ?_) (fun h0 => ?_)
    · refine g_callH (AFunH.frameB [0, 1] (hr a q n1 m1 (by omega) (by omega) (by omega) (by first | exact hm | exact kA | exact kB | exact kC | exact kD)) rfl rfl rfl rfl rfl rfl rfl) ?_
      refine g_need (by first | (rw [i64_iff]; omega) | omega | (constructor <;> omega) | (rw [i64_iff]; omega) | (rw [i64_iff]; constructor <;> omega) | rfl | (simp; done)) ?_
      refine g_need (by first | (rw [i64_iff]; omega) | omega | (constructor <;> omega) | (rw [i64_iff]; omega) | (rw [i64_iff]; constructor <;> omega) | rfl | (simp; done)) ?_
      refine g_iteD (fun h1 => ?_) (fun h1 => ?_)
      · first | rw [narLo_1 (rec := spanM t k) (s := (s0, s1)) (a := a) (i := q) (m := (n1, m1)) (d := d) h0 h1] | rw [narLo_2 (rec := spanM t k) (s := (s0, s1)) (a := a) (i := q) (m := (n1, m1)) (d := d) h0 h1] | rw [narLo_3 h0]
        refine g_fin ?_
        exact g_end [0, 1] (show ∀ k, k < 2 → ([0, 1] : List Nat)[k]? = some k by decide) (by decide) (⟨⟨rfl, rfl⟩, ⟨rfl, rfl⟩, trivial⟩) ⟨leB.refl _, rfl, trivial⟩
      · first | rw [narLo_1 (rec := spanM t k) (s := (s0, s1)) (a := a) (i := q) (m := (n1, m1)) (d := d) h0 h1] | rw [narLo_2 (rec := spanM t k) (s := (s0, s1)) (a := a) (i := q) (m := (n1, m1)) (d := d) h0 h1] | rw [narLo_3 h0]
        refine g_fin ?_
        exact g_end [0, 1] (show ∀ k, k < 2 → ([0, 1] : List Nat)[k]? = some k by decide) (by decide) (⟨⟨rfl, rfl⟩, ⟨rfl, rfl⟩, trivial⟩) ⟨leB.refl _, rfl, trivial⟩
    · first | rw [narLo_1 (rec := spanM t k) (s := (s0, s1)) (a := a) (i := q) (m := (n1, m1)) (d := d) h0 h1] | rw [narLo_2 (rec := spanM t k) (s := (s0, s1)) (a := a) (i := q) (m := (n1, m1)) (d := d) h0 h1] | rw [narLo_3 h0]
      refine g_fin ?_
      exact g_end [0, 1] (show ∀ k, k < 2 → ([0, 1] : List Nat)[k]? = some k by decide) (by decide) (⟨⟨rfl, rfl⟩, ⟨rfl, rfl⟩, trivial⟩) ⟨leB.refl _, rfl, trivial⟩
    )
theorem narrow_fun (t : ETrace) (n : Nat) (m : EVal → Option EVal) (s : EVal) (v : Int) (a : Int) (b : Int) (d : Int) (q : Int) (k : Nat) (bd : Int) (hd : DomC t) (hr : SpanC t k bd) (hk : bd.toNat ≤ k) (hbl : bd ≤ (t.2.2.2.1.length : Int)) (hq : q < bd) (ha : 0 ≤ a ∧ a < q) (hb : 0 ≤ b ∧ b < q) (hd2 : 0 ≤ d ∧ d ≤ 1) (hm : KeptOk t (n, m)) : AFunH Tryd.prog 97 [.c (.ptr 0 0 0 0), .agg (tVal.enc s), .c (.int .i64 v), .c (.int .i64 a), .c (.int .i64 b), .c (.int .i64 d), .c (.int .i64 q)] [.cells 128 (Ty.enc tTrace t ++ [.map 1]), .map 164 tVal tVal n m] (.agg (Ty.enc tVal ((narM (spanM t k) s v a b d q (n, m)).1))) [.cells 128 (Ty.enc tTrace t ++ [.map 1]), .map 164 tVal tVal (narM (spanM t k) s v a b d q (n, m)).2.1 (narM (spanM t k) s v a b d q (n, m)).2.2] (List.range 2) :=
  AFunH.ofL (oc105 k) narrow_lv 3000 Tryd.func97 mixed rfl (by decide) (Nat.le_of_ble_eq_true rfl) rfl rfl (Nat.le_of_ble_eq_true rfl) _ (narrow_T_ok t n m s v a b d q k) fun hF => by
    obtain ⟨eA, kA, _⟩ := spanM_ok hd.toDomT k b q (n, m) (by omega) hb.1 hb.2 (by omega) hm
    have iA : InB (spanM t k b q (n, m)).1 := by rw [eA]; exact spanF_in hd hb.1 hb.2 (by omega)
    unfold InB at iA
    unfold narrow_T
    refine g_iteD (fun h0 => ?_) (fun h0 => ?_)
    · refine g_callH (AFunH.frameB [0, 1] (hr b q n m (by omega) (by omega) (by omega) (by first | exact hm | exact kA | exact kB | exact kC | exact kD)) rfl rfl rfl rfl rfl rfl rfl) ?_
      refine g_need (by first | (rw [i64_iff]; omega) | omega | (constructor <;> omega) | (rw [i64_iff]; omega) | (rw [i64_iff]; constructor <;> omega) | rfl | (simp; done)) ?_
      refine g_need (by first | (rw [i64_iff]; omega) | omega | (constructor <;> omega) | (rw [i64_iff]; omega) | (rw [i64_iff]; constructor <;> omega) | rfl | (simp; done)) ?_
      refine g_iteD (fun h1 => ?_) (fun h1 => ?_)
      · refine g_stop (RunN.keep [0, 1, 2, 3] (true :: false :: true :: true :: true :: true :: true :: false :: true :: F4 (false :: true :: F32 (F8 (false :: [])))) (show ∀ k, k < 2 → ([0, 1, 2, 3] : List Nat)[k]? = some k by decide) (by decide) rfl rfl ?_)
        have ht := narrow_r5 t n m s v a b d q k (spanM t k b q (n, m)).2.1 (spanM t k b q (n, m)).2.2 s.1 (if ((spanM t k b q (n, m)).1.2 - d) < s.2 then ((spanM t k b q (n, m)).1.2 - d) else s.2) bd hd hr hk hbl hq ha hb hd2 (by first | exact hm | exact kA | exact kB | exact kC | exact kD); (first | rw [narM, narHi_1 (rec := spanM t k) (s := s) (b := b) (i := q) (m := (n, m)) (d := d) h0 h1] | rw [narM, narHi_2 (rec := spanM t k) (s := s) (b := b) (i := q) (m := (n, m)) (d := d) h0 h1] | rw [narM, narHi_3 h0]); exact ht
      · refine g_stop (RunN.keep [0, 1, 2, 3] (true :: false :: true :: true :: true :: true :: true :: false :: true :: F4 (false :: true :: F32 (F8 (false :: [])))) (show ∀ k, k < 2 → ([0, 1, 2, 3] : List Nat)[k]? = some k by decide) (by decide) rfl rfl ?_)
        have ht := narrow_r5 t n m s v a b d q k (spanM t k b q (n, m)).2.1 (spanM t k b q (n, m)).2.2 s.1 s.2 bd hd hr hk hbl hq ha hb hd2 (by first | exact hm | exact kA | exact kB | exact kC | exact kD); (first | rw [narM, narHi_1 (rec := spanM t k) (s := s) (b := b) (i := q) (m := (n, m)) (d := d) h0 h1] | rw [narM, narHi_2 (rec := spanM t k) (s := s) (b := b) (i := q) (m := (n, m)) (d := d) h0 h1] | rw [narM, narHi_3 h0]); exact ht
    · refine g_stop (RunN.keep [0, 1, 2, 3] (true :: false :: true :: true :: true :: true :: true :: false :: true :: F4 (false :: true :: F32 (F8 (false :: [])))) (show ∀ k, k < 2 → ([0, 1, 2, 3] : List Nat)[k]? = some k by decide) (by decide) rfl rfl ?_)
      have ht := narrow_r5 t n m s v a b d q k n m s.1 s.2 bd hd hr hk hbl hq ha hb hd2 (by first | exact hm | exact kA | exact kB | exact kC | exact kD); (first | rw [narM, narHi_1 (rec := spanM t k) (s := s) (b := b) (i := q) (m := (n, m)) (d := d) h0 h1] | rw [narM, narHi_2 (rec := spanM t k) (s := s) (b := b) (i := q) (m := (n, m)) (d := d) h0 h1] | rw [narM, narHi_3 h0]); exact ht

end Go.Proofs.YtefkifdhjabdiaaDoor
namespace Go.Proofs.YtefkifdhjabdiaaDoor
set_option maxHeartbeats 4000000
set_option linter.unusedVariables false
set_option linter.unusedSimpArgs false
set_option maxRecDepth 100000
noncomputable def oc106 (k : Nat) : Orc where
  pure := fun f args => match f, args with
    | 127, [] => some (.agg (Ty.enc tVal ((-2147483648, 2147483647))))
    | 128, [a0] => match dA tI a0 with
      | some x0 => some (.c (.int .i64 (cutN x0)))
      | _ => none
    | _, _ => none
  heap := fun f args H => match f, args with
    | 62, [.one (.c (.ptr b0 0 0 0)), a1, a2] => match cellsAs 128 H[b0]? with
      | some [c0_0_0, c0_0_1, c0_0_2, c0_0_3, c0_0_4, c0_0_5, c0_0_6, c0_0_7, c0_0_8, c0_0_9, c0_0_10, c0_0_11, c0_0_12, .map b1] => (match dA tI a1, dA tI a2, dCs tTrace [c0_0_0, c0_0_1, c0_0_2, c0_0_3, c0_0_4, c0_0_5, c0_0_6, c0_0_7, c0_0_8, c0_0_9, c0_0_10, c0_0_11, c0_0_12], mapAs 164 tVal tVal H[b1]? with
        | some x1, some x2, some y0_0, some (n1, y1) => hres [b0, b1] H (.agg (Ty.enc tVal ((spanM y0_0 k x1 x2 (n1, y1)).1))) [.cells 128 [.int .i64 y0_0.1, .int .i64 y0_0.2.1, .int .i64 y0_0.2.2.1, .ro tIns y0_0.2.2.2.1, .ro tExit y0_0.2.2.2.2.1, .int .i64 y0_0.2.2.2.2.2.1.1, .int .i64 y0_0.2.2.2.2.2.1.2.1, .ro tVal y0_0.2.2.2.2.2.1.2.2.1, .ro tMake y0_0.2.2.2.2.2.1.2.2.2, .int .i64 y0_0.2.2.2.2.2.2.1, .int .i64 y0_0.2.2.2.2.2.2.2.1, .ro tVal y0_0.2.2.2.2.2.2.2.2.1, .ro tMake y0_0.2.2.2.2.2.2.2.2.2, .map 1], .map 164 tVal tVal (spanM y0_0 k x1 x2 (n1, y1)).2.1 (spanM y0_0 k x1 x2 (n1, y1)).2.2]
        | _, _, _, _ => none)
      | _ => none
    | 96, [.one (.c (.ptr b0 0 0 0)), a1] => match cellsAs 128 H[b0]? with
      | some [c0_0_0, c0_0_1, c0_0_2, c0_0_3, c0_0_4, c0_0_5, c0_0_6, c0_0_7, c0_0_8, c0_0_9, c0_0_10, c0_0_11, c0_0_12, .map b1] => (match dA tI a1, dCs tTrace [c0_0_0, c0_0_1, c0_0_2, c0_0_3, c0_0_4, c0_0_5, c0_0_6, c0_0_7, c0_0_8, c0_0_9, c0_0_10, c0_0_11, c0_0_12], mapAs 164 tVal tVal H[b1]? with
        | some x1, some y0_0, some (n1, y1) => hres [b0, b1] H (.c (.bool (intsF y0_0 x1))) [.cells 128 [.int .i64 y0_0.1, .int .i64 y0_0.2.1, .int .i64 y0_0.2.2.1, .ro tIns y0_0.2.2.2.1, .ro tExit y0_0.2.2.2.2.1, .int .i64 y0_0.2.2.2.2.2.1.1, .int .i64 y0_0.2.2.2.2.2.1.2.1, .ro tVal y0_0.2.2.2.2.2.1.2.2.1, .ro tMake y0_0.2.2.2.2.2.1.2.2.2, .int .i64 y0_0.2.2.2.2.2.2.1, .int .i64 y0_0.2.2.2.2.2.2.2.1, .ro tVal y0_0.2.2.2.2.2.2.2.2.1, .ro tMake y0_0.2.2.2.2.2.2.2.2.2, .map 1], .map 164 tVal tVal n1 y1]
        | _, _, _ => none)
      | _ => none
    | 101, [.one (.c (.ptr b0 0 0 0)), a1] => match cellsAs 128 H[b0]? with
      | some [c0_0_0, c0_0_1, c0_0_2, c0_0_3, c0_0_4, c0_0_5, c0_0_6, c0_0_7, c0_0_8, c0_0_9, c0_0_10, c0_0_11, c0_0_12, .map b1] => (match dA tI a1, dCs tTrace [c0_0_0, c0_0_1, c0_0_2, c0_0_3, c0_0_4, c0_0_5, c0_0_6, c0_0_7, c0_0_8, c0_0_9, c0_0_10, c0_0_11, c0_0_12], mapAs 164 tVal tVal H[b1]? with
        | some x1, some y0_0, some (n1, y1) => hres [b0, b1] H (.tup [.agg (Ty.enc tVal ((reckM (spanM y0_0 k) y0_0 x1 (n1, y1)).1.1)), .c (.bool ((reckM (spanM y0_0 k) y0_0 x1 (n1, y1)).1.2))]) [.cells 128 [.int .i64 y0_0.1, .int .i64 y0_0.2.1, .int .i64 y0_0.2.2.1, .ro tIns y0_0.2.2.2.1, .ro tExit y0_0.2.2.2.2.1, .int .i64 y0_0.2.2.2.2.2.1.1, .int .i64 y0_0.2.2.2.2.2.1.2.1, .ro tVal y0_0.2.2.2.2.2.1.2.2.1, .ro tMake y0_0.2.2.2.2.2.1.2.2.2, .int .i64 y0_0.2.2.2.2.2.2.1, .int .i64 y0_0.2.2.2.2.2.2.2.1, .ro tVal y0_0.2.2.2.2.2.2.2.2.1, .ro tMake y0_0.2.2.2.2.2.2.2.2.2, .map 1], .map 164 tVal tVal (reckM (spanM y0_0 k) y0_0 x1 (n1, y1)).2.1 (reckM (spanM y0_0 k) y0_0 x1 (n1, y1)).2.2]
        | _, _, _ => none)
      | _ => none
    | _, _ => none
def itself_lv : LV := ⟨(true :: true :: F2 (true :: true :: F32 (F32 (F16 (F8 (false :: [])))))), [4, 11]⟩
noncomputable def itself_T (t : ETrace) (n : Nat) (m : EVal → Option EVal) (v : Int) (k : Nat) : Tree :=
  .need ((0 : Int) ≤ v ∧ (v : Int) < (t.2.2.2.1.length : Int)) <|
  .need ((Int.toNat v) < t.2.2.2.1.length) <|
  .ite (decide ((t.2.2.2.1.getD (Int.toNat v) tIns.dflt).1 = 2))
  (.ite (decide ((t.2.2.2.1.getD (Int.toNat v) tIns.dflt).2.2.2.2.2.2.1 = 2))
   (.ret (.agg [.int .i64 (t.2.2.2.1.getD (Int.toNat v) tIns.dflt).2.2.2.2.2.2.2, .int .i64 (t.2.2.2.1.getD (Int.toNat v) tIns.dflt).2.2.2.2.2.2.2]) [.cells 128 (Ty.enc tTrace t ++ [.map 1]), .map 164 tVal tVal n m, .cells 130 [.int .i64 (t.2.2.2.1.getD (Int.toNat v) tIns.dflt).2.2.2.2.2.2.2, .int .i64 (t.2.2.2.1.getD (Int.toNat v) tIns.dflt).2.2.2.2.2.2.2], .cells 46 (Ty.enc tIns (t.2.2.2.1.getD (Int.toNat v) tIns.dflt))])
   (.stop (rg (bodyOf Tryd.f95) 4) (.c (.ptr 0 0 0 0) :: .c (.int .i64 v) :: J2 (.c (.ptr 2 0 0 0) :: .c (.ptr 3 0 0 0) :: J32 (J32 (J16 (J8 (.junk :: [])))))) [.cells 128 (Ty.enc tTrace t ++ [.map 1]), .map 164 tVal tVal n m, .cells 130 [.int .i64 0, .int .i64 0], .cells 46 (Ty.enc tIns (t.2.2.2.1.getD (Int.toNat v) tIns.dflt))]))
  (.stop (rg (bodyOf Tryd.f95) 4) (.c (.ptr 0 0 0 0) :: .c (.int .i64 v) :: J2 (.c (.ptr 2 0 0 0) :: .c (.ptr 3 0 0 0) :: J32 (J32 (J16 (J8 (.junk :: [])))))) [.cells 128 (Ty.enc tTrace t ++ [.map 1]), .map 164 tVal tVal n m, .cells 130 [.int .i64 0, .int .i64 0], .cells 46 (Ty.enc tIns (t.2.2.2.1.getD (Int.toNat v) tIns.dflt))])
theorem itself_T_ok (t : ETrace) (n : Nat) (m : EVal → Option EVal) (v : Int) (k : Nat) : aRun Tryd.prog (oc106 k) Tryd.f95 itself_lv 3000 [.code (bodyOf Tryd.f95)] ([.c (.ptr 0 0 0 0), .c (.int .i64 v)] ++ List.replicate (Func.ntmps Tryd.f95 - 2) .junk) [.cells 128 (Ty.enc tTrace t ++ [.map 1]), .map 164 tVal tVal n m] = itself_T t n m v k := by kernel_rfl
noncomputable def itself_r4_R (t : ETrace) (n : Nat) (m : EVal → Option EVal) (v : Int) (k : Nat) : Tree :=
  .ite (decide ((t.2.2.2.1.getD (Int.toNat v) tIns.dflt).1 = 15))
  (.ret (.agg [.int .i64 0, .int .i64 600]) [.cells 128 (Ty.enc tTrace t ++ [.map 1]), .map 164 tVal tVal n m, .cells 130 [.int .i64 0, .int .i64 600], .cells 46 (Ty.enc tIns (t.2.2.2.1.getD (Int.toNat v) tIns.dflt))])
  (.ite ((!(decide ((t.2.2.2.1.getD (Int.toNat v) tIns.dflt).1 = 7))))
   (.call 127 [] false (.agg [.int .i64 (-2147483648, 2147483647).1, .int .i64 (-2147483648, 2147483647).2]) <|
    .ret (.agg [.int .i64 (-2147483648, 2147483647).1, .int .i64 (-2147483648, 2147483647).2]) [.cells 128 (Ty.enc tTrace t ++ [.map 1]), .map 164 tVal tVal n m, .cells 130 [.int .i64 (-2147483648, 2147483647).1, .int .i64 (-2147483648, 2147483647).2], .cells 46 (Ty.enc tIns (t.2.2.2.1.getD (Int.toNat v) tIns.dflt))])
   (.callH 96 [.c (.ptr 0 0 0 0), .c (.int .i64 v)] [.cells 128 (Ty.enc tTrace t ++ [.map 1]), .map 164 tVal tVal n m, .cells 130 [.int .i64 0, .int .i64 0], .cells 46 (Ty.enc tIns (t.2.2.2.1.getD (Int.toNat v) tIns.dflt))] (.c (.bool (intsF t v))) [.cells 128 (Ty.enc tTrace t ++ [.map 1]), .map 164 tVal tVal n m, .cells 130 [.int .i64 0, .int .i64 0], .cells 46 (Ty.enc tIns (t.2.2.2.1.getD (Int.toNat v) tIns.dflt))] [0, 1] <|
    .ite ((!(intsF t v)))
    (.call 127 [] false (.agg [.int .i64 (-2147483648, 2147483647).1, .int .i64 (-2147483648, 2147483647).2]) <|
     .ret (.agg [.int .i64 (-2147483648, 2147483647).1, .int .i64 (-2147483648, 2147483647).2]) [.cells 128 (Ty.enc tTrace t ++ [.map 1]), .map 164 tVal tVal n m, .cells 130 [.int .i64 (-2147483648, 2147483647).1, .int .i64 (-2147483648, 2147483647).2], .cells 46 (Ty.enc tIns (t.2.2.2.1.getD (Int.toNat v) tIns.dflt))])
    (.callH 101 [.c (.ptr 0 0 0 0), .c (.int .i64 v)] [.cells 128 (Ty.enc tTrace t ++ [.map 1]), .map 164 tVal tVal n m, .cells 130 [.int .i64 0, .int .i64 0], .cells 46 (Ty.enc tIns (t.2.2.2.1.getD (Int.toNat v) tIns.dflt))] (.tup [.agg [.int .i64 (reckM (spanM t k) t v (n, m)).1.1.1, .int .i64 (reckM (spanM t k) t v (n, m)).1.1.2], .c (.bool (reckM (spanM t k) t v (n, m)).1.2)]) [.cells 128 (Ty.enc tTrace t ++ [.map 1]), .map 164 tVal tVal (reckM (spanM t k) t v (n, m)).2.1 (reckM (spanM t k) t v (n, m)).2.2, .cells 130 [.int .i64 0, .int .i64 0], .cells 46 (Ty.enc tIns (t.2.2.2.1.getD (Int.toNat v) tIns.dflt))] [0, 1] <|
     .ite ((reckM (spanM t k) t v (n, m)).1.2)
     (.call 128 [.c (.int .i64 (reckM (spanM t k) t v (n, m)).1.1.1)] false (.c (.int .i64 (cutN (reckM (spanM t k) t v (n, m)).1.1.1))) <|
      .call 128 [.c (.int .i64 (reckM (spanM t k) t v (n, m)).1.1.2)] false (.c (.int .i64 (cutN (reckM (spanM t k) t v (n, m)).1.1.2))) <|
      .ret (.agg [.int .i64 (cutN (reckM (spanM t k) t v (n, m)).1.1.1), .int .i64 (cutN (reckM (spanM t k) t v (n, m)).1.1.2)]) [.cells 128 (Ty.enc tTrace t ++ [.map 1]), .map 164 tVal tVal (reckM (spanM t k) t v (n, m)).2.1 (reckM (spanM t k) t v (n, m)).2.2, .cells 130 [.int .i64 (cutN (reckM (spanM t k) t v (n, m)).1.1.1), .int .i64 (cutN (reckM (spanM t k) t v (n, m)).1.1.2)], .cells 46 (Ty.enc tIns (t.2.2.2.1.getD (Int.toNat v) tIns.dflt)), .cells 130 [.int .i64 (reckM (spanM t k) t v (n, m)).1.1.1, .int .i64 (reckM (spanM t k) t v (n, m)).1.1.2]])
     (.stop (rg (bodyOf Tryd.f95) 11) (.c (.ptr 0 0 0 0) :: .c (.int .i64 v) :: J2 (.c (.ptr 2 0 0 0) :: .c (.ptr 3 0 0 0) :: J32 (J32 (J16 (J8 (.junk :: [])))))) [.cells 128 (Ty.enc tTrace t ++ [.map 1]), .map 164 tVal tVal (reckM (spanM t k) t v (n, m)).2.1 (reckM (spanM t k) t v (n, m)).2.2, .cells 130 [.int .i64 0, .int .i64 0], .cells 46 (Ty.enc tIns (t.2.2.2.1.getD (Int.toNat v) tIns.dflt)), .cells 130 [.int .i64 (reckM (spanM t k) t v (n, m)).1.1.1, .int .i64 (reckM (spanM t k) t v (n, m)).1.1.2]]))))
theorem itself_r4_R_ok (t : ETrace) (n : Nat) (m : EVal → Option EVal) (v : Int) (k : Nat) : aRound Tryd.prog (oc106 k) Tryd.f95 itself_lv 3000 (rg (bodyOf Tryd.f95) 4) (.c (.ptr 0 0 0 0) :: .c (.int .i64 v) :: J2 (.c (.ptr 2 0 0 0) :: .c (.ptr 3 0 0 0) :: J32 (J32 (J16 (J8 (.junk :: [])))))) [.cells 128 (Ty.enc tTrace t ++ [.map 1]), .map 164 tVal tVal n m, .cells 130 [.int .i64 0, .int .i64 0], .cells 46 (Ty.enc tIns (t.2.2.2.1.getD (Int.toNat v) tIns.dflt))] = itself_r4_R t n m v k := by kernel_rfl
noncomputable def itself_r11_R (t : ETrace) (n : Nat) (m : EVal → Option EVal) (v : Int) (k : Nat) (n1 : Nat) (m1 : EVal → Option EVal) : Tree :=
  .callH 62 [.c (.ptr 0 0 0 0), .c (.int .i64 (t.2.2.2.1.getD (Int.toNat v) tIns.dflt).2.2.1), .c (.int .i64 v)] [.cells 128 (Ty.enc tTrace t ++ [.map 1]), .map 164 tVal tVal n1 m1, .cells 130 [.int .i64 0, .int .i64 0], .cells 46 (Ty.enc tIns (t.2.2.2.1.getD (Int.toNat v) tIns.dflt))] (.agg [.int .i64 (spanM t k (t.2.2.2.1.getD (Int.toNat v) tIns.dflt).2.2.1 v (n1, m1)).1.1, .int .i64 (spanM t k (t.2.2.2.1.getD (Int.toNat v) tIns.dflt).2.2.1 v (n1, m1)).1.2]) [.cells 128 (Ty.enc tTrace t ++ [.map 1]), .map 164 tVal tVal (spanM t k (t.2.2.2.1.getD (Int.toNat v) tIns.dflt).2.2.1 v (n1, m1)).2.1 (spanM t k (t.2.2.2.1.getD (Int.toNat v) tIns.dflt).2.2.1 v (n1, m1)).2.2, .cells 130 [.int .i64 0, .int .i64 0], .cells 46 (Ty.enc tIns (t.2.2.2.1.getD (Int.toNat v) tIns.dflt))] [0, 1] <|
  .ite (decide ((t.2.2.2.1.getD (Int.toNat v) tIns.dflt).2.2.2.2.1 = 7))
  (.ite (decide ((1 : Int) ≤ (spanM t k (t.2.2.2.1.getD (Int.toNat v) tIns.dflt).2.2.1 v (n1, m1)).1.1))
   (.need (inR .i64 ((spanM t k (t.2.2.2.1.getD (Int.toNat v) tIns.dflt).2.2.1 v (n1, m1)).1.2 - 1)) <|
    .callH 62 [.c (.ptr 0 0 0 0), .c (.int .i64 (t.2.2.2.1.getD (Int.toNat v) tIns.dflt).2.1), .c (.int .i64 v)] [.cells 128 (Ty.enc tTrace t ++ [.map 1]), .map 164 tVal tVal (spanM t k (t.2.2.2.1.getD (Int.toNat v) tIns.dflt).2.2.1 v (n1, m1)).2.1 (spanM t k (t.2.2.2.1.getD (Int.toNat v) tIns.dflt).2.2.1 v (n1, m1)).2.2, .cells 130 [.int .i64 0, .int .i64 0], .cells 46 (Ty.enc tIns (t.2.2.2.1.getD (Int.toNat v) tIns.dflt)), .cells 130 [.int .i64 (spanM t k (t.2.2.2.1.getD (Int.toNat v) tIns.dflt).2.2.1 v (n1, m1)).1.1, .int .i64 (spanM t k (t.2.2.2.1.getD (Int.toNat v) tIns.dflt).2.2.1 v (n1, m1)).1.2]] (.agg [.int .i64 (spanM t k (t.2.2.2.1.getD (Int.toNat v) tIns.dflt).2.1 v (spanM t k (t.2.2.2.1.getD (Int.toNat v) tIns.dflt).2.2.1 v (n1, m1)).2).1.1, .int .i64 (spanM t k (t.2.2.2.1.getD (Int.toNat v) tIns.dflt).2.1 v (spanM t k (t.2.2.2.1.getD (Int.toNat v) tIns.dflt).2.2.1 v (n1, m1)).2).1.2]) [.cells 128 (Ty.enc tTrace t ++ [.map 1]), .map 164 tVal tVal (spanM t k (t.2.2.2.1.getD (Int.toNat v) tIns.dflt).2.1 v (spanM t k (t.2.2.2.1.getD (Int.toNat v) tIns.dflt).2.2.1 v (n1, m1)).2).2.1 (spanM t k (t.2.2.2.1.getD (Int.toNat v) tIns.dflt).2.1 v (spanM t k (t.2.2.2.1.getD (Int.toNat v) tIns.dflt).2.2.1 v (n1, m1)).2).2.2, .cells 130 [.int .i64 0, .int .i64 0], .cells 46 (Ty.enc tIns (t.2.2.2.1.getD (Int.toNat v) tIns.dflt)), .cells 130 [.int .i64 (spanM t k (t.2.2.2.1.getD (Int.toNat v) tIns.dflt).2.2.1 v (n1, m1)).1.1, .int .i64 (spanM t k (t.2.2.2.1.getD (Int.toNat v) tIns.dflt).2.2.1 v (n1, m1)).1.2]] [0, 1] <|
    .ite (decide ((0 : Int) ≤ (spanM t k (t.2.2.2.1.getD (Int.toNat v) tIns.dflt).2.1 v (spanM t k (t.2.2.2.1.getD (Int.toNat v) tIns.dflt).2.2.1 v (n1, m1)).2).1.1))
    (.ret (.agg [.int .i64 0, .int .i64 ((spanM t k (t.2.2.2.1.getD (Int.toNat v) tIns.dflt).2.2.1 v (n1, m1)).1.2 - 1)]) [.cells 128 (Ty.enc tTrace t ++ [.map 1]), .map 164 tVal tVal (spanM t k (t.2.2.2.1.getD (Int.toNat v) tIns.dflt).2.1 v (spanM t k (t.2.2.2.1.getD (Int.toNat v) tIns.dflt).2.2.1 v (n1, m1)).2).2.1 (spanM t k (t.2.2.2.1.getD (Int.toNat v) tIns.dflt).2.1 v (spanM t k (t.2.2.2.1.getD (Int.toNat v) tIns.dflt).2.2.1 v (n1, m1)).2).2.2, .cells 130 [.int .i64 0, .int .i64 ((spanM t k (t.2.2.2.1.getD (Int.toNat v) tIns.dflt).2.2.1 v (n1, m1)).1.2 - 1)], .cells 46 (Ty.enc tIns (t.2.2.2.1.getD (Int.toNat v) tIns.dflt)), .cells 130 [.int .i64 (spanM t k (t.2.2.2.1.getD (Int.toNat v) tIns.dflt).2.2.1 v (n1, m1)).1.1, .int .i64 (spanM t k (t.2.2.2.1.getD (Int.toNat v) tIns.dflt).2.2.1 v (n1, m1)).1.2]])
    (.need (inR .i64 (0 - ((spanM t k (t.2.2.2.1.getD (Int.toNat v) tIns.dflt).2.2.1 v (n1, m1)).1.2 - 1))) <|
     .ret (.agg [.int .i64 (0 - ((spanM t k (t.2.2.2.1.getD (Int.toNat v) tIns.dflt).2.2.1 v (n1, m1)).1.2 - 1)), .int .i64 ((spanM t k (t.2.2.2.1.getD (Int.toNat v) tIns.dflt).2.2.1 v (n1, m1)).1.2 - 1)]) [.cells 128 (Ty.enc tTrace t ++ [.map 1]), .map 164 tVal tVal (spanM t k (t.2.2.2.1.getD (Int.toNat v) tIns.dflt).2.1 v (spanM t k (t.2.2.2.1.getD (Int.toNat v) tIns.dflt).2.2.1 v (n1, m1)).2).2.1 (spanM t k (t.2.2.2.1.getD (Int.toNat v) tIns.dflt).2.1 v (spanM t k (t.2.2.2.1.getD (Int.toNat v) tIns.dflt).2.2.1 v (n1, m1)).2).2.2, .cells 130 [.int .i64 (0 - ((spanM t k (t.2.2.2.1.getD (Int.toNat v) tIns.dflt).2.2.1 v (n1, m1)).1.2 - 1)), .int .i64 ((spanM t k (t.2.2.2.1.getD (Int.toNat v) tIns.dflt).2.2.1 v (n1, m1)).1.2 - 1)], .cells 46 (Ty.enc tIns (t.2.2.2.1.getD (Int.toNat v) tIns.dflt)), .cells 130 [.int .i64 (spanM t k (t.2.2.2.1.getD (Int.toNat v) tIns.dflt).2.2.1 v (n1, m1)).1.1, .int .i64 (spanM t k (t.2.2.2.1.getD (Int.toNat v) tIns.dflt).2.2.1 v (n1, m1)).1.2]]))
   (.call 127 [] false (.agg [.int .i64 (-2147483648, 2147483647).1, .int .i64 (-2147483648, 2147483647).2]) <|
    .ret (.agg [.int .i64 (-2147483648, 2147483647).1, .int .i64 (-2147483648, 2147483647).2]) [.cells 128 (Ty.enc tTrace t ++ [.map 1]), .map 164 tVal tVal (spanM t k (t.2.2.2.1.getD (Int.toNat v) tIns.dflt).2.2.1 v (n1, m1)).2.1 (spanM t k (t.2.2.2.1.getD (Int.toNat v) tIns.dflt).2.2.1 v (n1, m1)).2.2, .cells 130 [.int .i64 (-2147483648, 2147483647).1, .int .i64 (-2147483648, 2147483647).2], .cells 46 (Ty.enc tIns (t.2.2.2.1.getD (Int.toNat v) tIns.dflt)), .cells 130 [.int .i64 (spanM t k (t.2.2.2.1.getD (Int.toNat v) tIns.dflt).2.2.1 v (n1, m1)).1.1, .int .i64 (spanM t k (t.2.2.2.1.getD (Int.toNat v) tIns.dflt).2.2.1 v (n1, m1)).1.2]]))
  (.call 127 [] false (.agg [.int .i64 (-2147483648, 2147483647).1, .int .i64 (-2147483648, 2147483647).2]) <|
   .ret (.agg [.int .i64 (-2147483648, 2147483647).1, .int .i64 (-2147483648, 2147483647).2]) [.cells 128 (Ty.enc tTrace t ++ [.map 1]), .map 164 tVal tVal (spanM t k (t.2.2.2.1.getD (Int.toNat v) tIns.dflt).2.2.1 v (n1, m1)).2.1 (spanM t k (t.2.2.2.1.getD (Int.toNat v) tIns.dflt).2.2.1 v (n1, m1)).2.2, .cells 130 [.int .i64 (-2147483648, 2147483647).1, .int .i64 (-2147483648, 2147483647).2], .cells 46 (Ty.enc tIns (t.2.2.2.1.getD (Int.toNat v) tIns.dflt)), .cells 130 [.int .i64 (spanM t k (t.2.2.2.1.getD (Int.toNat v) tIns.dflt).2.2.1 v (n1, m1)).1.1, .int .i64 (spanM t k (t.2.2.2.1.getD (Int.toNat v) tIns.dflt).2.2.1 v (n1, m1)).1.2]])
theorem itself_r11_R_ok (t : ETrace) (n : Nat) (m : EVal → Option EVal) (v : Int) (k : Nat) (n1 : Nat) (m1 : EVal → Option EVal) : aRound Tryd.prog (oc106 k) Tryd.f95 itself_lv 3000 (rg (bodyOf Tryd.f95) 11) (.c (.ptr 0 0 0 0) :: .c (.int .i64 v) :: J2 (.c (.ptr 2 0 0 0) :: .c (.ptr 3 0 0 0) :: J32 (J32 (J16 (J8 (.junk :: [])))))) [.cells 128 (Ty.enc tTrace t ++ [.map 1]), .map 164 tVal tVal n1 m1, .cells 130 [.int .i64 0, .int .i64 0], .cells 46 (Ty.enc tIns (t.2.2.2.1.getD (Int.toNat v) tIns.dflt))] = itself_r11_R t n m v k n1 m1 := by kernel_rfl
theorem itself_r11 (t : ETrace) (n : Nat) (m : EVal → Option EVal) (v : Int) (k : Nat) (n1 : Nat) (m1 : EVal → Option EVal) (bd : Int) (hd : DomC t) (hr : SpanC t k bd) (hk : bd.toNat ≤ k) (hbl : bd ≤ (t.2.2.2.1.length : Int)) (hm : KeptOk t (n1, m1)) (hi : 0 ≤ v ∧ v < bd) (ho : (t.2.2.2.1.getD (Int.toNat v) tIns.dflt).1 = 7) : RunN 2 Tryd.prog 95 (finQ Tryd.prog 2 (.agg (Ty.enc tVal ((modM (spanM t k) t v (n1, m1)).1))) [.cells 128 (Ty.enc tTrace t ++ [.map 1]), .map 164 tVal tVal (modM (spanM t k) t v (n1, m1)).2.1 (modM (spanM t k) t v (n1, m1)).2.2]) (rg (bodyOf Tryd.f95) 11) (.c (.ptr 0 0 0 0) :: .c (.int .i64 v) :: J2 (.c (.ptr 2 0 0 0) :: .c (.ptr 3 0 0 0) :: J32 (J32 (J16 (J8 (.junk :: [])))))) [.cells 128 (Ty.enc tTrace t ++ [.map 1]), .map 164 tVal tVal n1 m1, .cells 130 [.int .i64 0, .int .i64 0], .cells 46 (Ty.enc tIns (t.2.2.2.1.getD (Int.toNat v) tIns.dflt))] :=
  Run.roundA (oc106 k) itself_lv 3000 Tryd.func95 mixed (itself_r11_R t n m v k n1 m1) (itself_r11_R_ok t n m v k n1 m1) (by
    unfold itself_r11_R
    obtain ⟨a0, a1, b0, b1⟩ : 0 ≤ (t.2.2.2.1.getD (Int.toNat v) tIns.dflt).2.1 ∧ (t.2.2.2.1.getD (Int.toNat v) tIns.dflt).2.1 < v ∧ 0 ≤ (t.2.2.2.1.getD (Int.toNat v) tIns.dflt).2.2.1 ∧ (t.2.2.2.1.getD (Int.toNat v) tIns.dflt).2.2.1 < v := hd.bin v (by omega) (by omega) ho
    obtain ⟨eB, kB, _⟩ := spanM_ok hd.toDomT k (t.2.2.2.1.getD (Int.toNat v) tIns.dflt).2.2.1 v (n1, m1) (by omega) b0 b1 (by omega) hm
    have iB : InB (spanM t k (t.2.2.2.1.getD (Int.toNat v) tIns.dflt).2.2.1 v (n1, m1)).1 := by rw [eB]; exact spanF_in hd b0 b1 (by omega)
    unfold InB at iB
    refine g_callH (AFunH.frameB [0, 1] (hr (t.2.2.2.1.getD (Int.toNat v) tIns.dflt).2.2.1 v n1 m1 (by omega) (by omega) (by omega) (by first | exact hm | exact kA | exact kB | exact kC | exact kD)) rfl rfl rfl rfl rfl rfl rfl) ?_
    refine g_iteD (fun h0 => ?_) (fun h0 => ?_)
    · refine g_iteD (fun h1 => ?_) (fun h1 => ?_)
      · refine g_need (by first | (rw [i64_iff]; omega) | omega | (constructor <;> omega) | (rw [i64_iff]; omega) | (rw [i64_iff]; constructor <;> omega) | rfl | (simp; done)) ?_
        refine g_callH (AFunH.frameB [0, 1] (hr (t.2.2.2.1.getD (Int.toNat v) tIns.dflt).2.1 v (spanM t k (t.2.2.2.1.getD (Int.toNat v) tIns.dflt).2.2.1 v (n1, m1)).2.1 (spanM t k (t.2.2.2.1.getD (Int.toNat v) tIns.dflt).2.2.1 v (n1, m1)).2.2 (by omega) (by omega) (by omega) (by first | exact hm | exact kA | exact kB | exact kC | exact kD)) rfl rfl rfl rfl rfl rfl rfl) ?_
        refine g_iteD (fun h2 => ?_) (fun h2 => ?_)
        · first | rw [modM_1 (t := t) (v := v) (rec := spanM t k) (m := (n1, m1)) h0 h1 h2] | rw [modM_2 (t := t) (v := v) (rec := spanM t k) (m := (n1, m1)) h0 h1 h2] | rw [modM_3 (t := t) (v := v) (rec := spanM t k) (m := (n1, m1)) h0 h1] | rw [modM_4 (t := t) (v := v) (rec := spanM t k) (m := (n1, m1)) h0]
          refine g_fin ?_
          exact g_end [0, 1] (show ∀ k, k < 2 → ([0, 1] : List Nat)[k]? = some k by decide) (by decide) (⟨⟨rfl, rfl⟩, ⟨rfl, rfl⟩, trivial⟩) ⟨leB.refl _, rfl, trivial⟩
        · refine g_need (by first | (rw [i64_iff]; omega) | omega | (constructor <;> omega) | (rw [i64_iff]; omega) | (rw [i64_iff]; constructor <;> omega) | rfl | (simp; done)) ?_
          first | rw [modM_1 (t := t) (v := v) (rec := spanM t k) (m := (n1, m1)) h0 h1 h2] | rw [modM_2 (t := t) (v := v) (rec := spanM t k) (m := (n1, m1)) h0 h1 h2] | rw [modM_3 (t := t) (v := v) (rec := spanM t k) (m := (n1, m1)) h0 h1] | rw [modM_4 (t := t) (v := v) (rec := spanM t k) (m := (n1, m1)) h0]
          refine g_fin ?_
          exact g_end [0, 1] (show ∀ k, k < 2 → ([0, 1] : List Nat)[k]? = some k by decide) (by decide) (⟨⟨rfl, rfl⟩, ⟨rfl, rfl⟩, trivial⟩) ⟨leB.refl _, rfl, trivial⟩
      · refine g_call (spanall_fun) (fun h => nomatch h) ?_
        first | rw [modM_1 (t := t) (v := v) (rec := spanM t k) (m := (n1, m1)) h0 h1 h2] | rw [modM_2 (t := t) (v := v) (rec := spanM t k) (m := (n1, m1)) h0 h1 h2] | rw [modM_3 (t := t) (v := v) (rec := spanM t k) (m := (n1, m1)) h0 h1] | rw [modM_4 (t := t) (v := v) (rec := spanM t k) (m := (n1, m1)) h0]
        refine g_fin ?_
        exact g_end [0, 1] (show ∀ k, k < 2 → ([0, 1] : List Nat)[k]? = some k by decide) (by decide) (⟨⟨rfl, rfl⟩, ⟨rfl, rfl⟩, trivial⟩) ⟨leB.refl _, rfl, trivial⟩
    · refine g_call (spanall_fun) (fun h => nomatch h) ?_
      first | rw [modM_1 (t := t) (v := v) (rec := spanM t k) (m := (n1, m1)) h0 h1 h2] | rw [modM_2 (t := t) (v := v) (rec := spanM t k) (m := (n1, m1)) h0 h1 h2] | rw [modM_3 (t := t) (v := v) (rec := spanM t k) (m := (n1, m1)) h0 h1] | rw [modM_4 (t := t) (v := v) (rec := spanM t k) (m := (n1, m1)) h0]
      refine g_fin ?_
      exact g_end [0, 1] (show ∀ k, k < 2 → ([0, 1] : List Nat)[k]? = some k by decide) (by decide) (⟨⟨rfl, rfl⟩, ⟨rfl, rfl⟩, trivial⟩) ⟨leB.refl _, rfl, trivial⟩
    )
theorem itself_r4 (t : ETrace) (n : Nat) (m : EVal → Option EVal) (v : Int) (k : Nat) (bd : Int) (hd : DomC t) (hr : SpanC t k bd) (hk : bd.toNat ≤ k) (hbl : bd ≤ (t.2.2.2.1.length : Int)) (hm : KeptOk t (n, m)) (hi : 0 ≤ v ∧ v < bd) (hc : ¬ ((t.2.2.2.1.getD (Int.toNat v) tIns.dflt).1 = 2 ∧ (t.2.2.2.1.getD (Int.toNat v) tIns.dflt).2.2.2.2.2.2.1 = 2))  : RunN 2 Tryd.prog 95 (finQ Tryd.prog 2 (.agg (Ty.enc tVal ((itselfM (spanM t k) t v (n, m)).1))) [.cells 128 (Ty.enc tTrace t ++ [.map 1]), .map 164 tVal tVal (itselfM (spanM t k) t v (n, m)).2.1 (itselfM (spanM t k) t v (n, m)).2.2]) (rg (bodyOf Tryd.f95) 4) (.c (.ptr 0 0 0 0) :: .c (.int .i64 v) :: J2 (.c (.ptr 2 0 0 0) :: .c (.ptr 3 0 0 0) :: J32 (J32 (J16 (J8 (.junk :: [])))))) [.cells 128 (Ty.enc tTrace t ++ [.map 1]), .map 164 tVal tVal n m, .cells 130 [.int .i64 0, .int .i64 0], .cells 46 (Ty.enc tIns (t.2.2.2.1.getD (Int.toNat v) tIns.dflt))] :=
  Run.roundA (oc106 k) itself_lv 3000 Tryd.func95 mixed (itself_r4_R t n m v k) (itself_r4_R_ok t n m v k) (by
    unfold itself_r4_R
    refine g_iteD (fun h0 => ?_) (fun h0 => ?_)
    · first | rw [itM_cnt (t := t) (v := v) (rec := spanM t k) (m := (n, m)) hc h0] | rw [itM_all (t := t) (v := v) (rec := spanM t k) (m := (n, m)) hc h0 h1] | rw [itM_ints (t := t) (v := v) (rec := spanM t k) (m := (n, m)) hc h0 h1 h2] | rw [itM_rec (t := t) (v := v) (rec := spanM t k) (m := (n, m)) hc h0 h1 h2 h3]
      refine g_fin ?_
      exact g_end [0, 1] (show ∀ k, k < 2 → ([0, 1] : List Nat)[k]? = some k by decide) (by decide) (⟨⟨rfl, rfl⟩, ⟨rfl, rfl⟩, trivial⟩) ⟨leB.refl _, rfl, trivial⟩
    · refine g_iteND (fun h1 => ?_) (fun h1 => ?_)
      · refine g_call (spanall_fun) (fun h => nomatch h) ?_
        first | rw [itM_cnt (t := t) (v := v) (rec := spanM t k) (m := (n, m)) hc h0] | rw [itM_all (t := t) (v := v) (rec := spanM t k) (m := (n, m)) hc h0 h1] | rw [itM_ints (t := t) (v := v) (rec := spanM t k) (m := (n, m)) hc h0 h1 h2] | rw [itM_rec (t := t) (v := v) (rec := spanM t k) (m := (n, m)) hc h0 h1 h2 h3]
        refine g_fin ?_
        exact g_end [0, 1] (show ∀ k, k < 2 → ([0, 1] : List Nat)[k]? = some k by decide) (by decide) (⟨⟨rfl, rfl⟩, ⟨rfl, rfl⟩, trivial⟩) ⟨leB.refl _, rfl, trivial⟩
      · refine g_callH (AFunH.frameB [0, 1] (ints_fun t n m v ⟨by omega, by omega⟩) rfl rfl rfl rfl rfl rfl rfl) ?_
        refine g_iteN (fun h2 => ?_) (fun h2 => ?_)
        · refine g_call (spanall_fun) (fun h => nomatch h) ?_
          first | rw [itM_cnt (t := t) (v := v) (rec := spanM t k) (m := (n, m)) hc h0] | rw [itM_all (t := t) (v := v) (rec := spanM t k) (m := (n, m)) hc h0 h1] | rw [itM_ints (t := t) (v := v) (rec := spanM t k) (m := (n, m)) hc h0 h1 h2] | rw [itM_rec (t := t) (v := v) (rec := spanM t k) (m := (n, m)) hc h0 h1 h2 h3]
          refine g_fin ?_
          exact g_end [0, 1] (show ∀ k, k < 2 → ([0, 1] : List Nat)[k]? = some k by decide) (by decide) (⟨⟨rfl, rfl⟩, ⟨rfl, rfl⟩, trivial⟩) ⟨leB.refl _, rfl, trivial⟩
        · refine g_callH (AFunH.frameB [0, 1] (reck_fun t n m v k bd hd hr hk hbl (by first | exact hm | exact kA | exact kB | exact kC | exact kD) ⟨by omega, by omega⟩ (by assumption)) rfl rfl rfl rfl rfl rfl rfl) ?_
          refine g_ite (fun h3 => ?_) (fun h3 => ?_)
          · refine g_call (spancut_fun (reckM (spanM t k) t v (n, m)).1.1.1) (fun h => nomatch h) ?_
            refine g_call (spancut_fun (reckM (spanM t k) t v (n, m)).1.1.2) (fun h => nomatch h) ?_
            first | rw [itM_cnt (t := t) (v := v) (rec := spanM t k) (m := (n, m)) hc h0] | rw [itM_all (t := t) (v := v) (rec := spanM t k) (m := (n, m)) hc h0 h1] | rw [itM_ints (t := t) (v := v) (rec := spanM t k) (m := (n, m)) hc h0 h1 h2] | rw [itM_rec (t := t) (v := v) (rec := spanM t k) (m := (n, m)) hc h0 h1 h2 h3]
            refine g_fin ?_
            exact g_end [0, 1] (show ∀ k, k < 2 → ([0, 1] : List Nat)[k]? = some k by decide) (by decide) (⟨⟨rfl, rfl⟩, ⟨rfl, rfl⟩, trivial⟩) ⟨leB.refl _, rfl, trivial⟩
          · refine g_stop (RunN.keep [0, 1, 2, 3] (true :: true :: F2 (true :: true :: F32 (F32 (F16 (F8 (false :: [])))))) (show ∀ k, k < 2 → ([0, 1, 2, 3] : List Nat)[k]? = some k by decide) (by decide) rfl rfl ?_)
            have ht := itself_r11 t n m v k (reckM (spanM t k) t v (n, m)).2.1 (reckM (spanM t k) t v (n, m)).2.2 bd hd hr hk hbl ((reckM_rel (SameX.refl t) hd.toDomT (spanM_rel hd.toDomT hk hbl) (by omega) (by omega) (by omega) (by assumption) (m' := ()) hm).2) (by omega) (by assumption); rw [itM_mod (t := t) (v := v) (rec := spanM t k) (m := (n, m)) hc h0 h1 h2 h3]; exact ht
    )
theorem itself_fun (t : ETrace) (n : Nat) (m : EVal → Option EVal) (v : Int) (k : Nat) (bd : Int) (hd : DomC t) (hr : SpanC t k bd) (hk : bd.toNat ≤ k) (hbl : bd ≤ (t.2.2.2.1.length : Int)) (hm : KeptOk t (n, m)) (hi : 0 ≤ v ∧ v < bd) : AFunH Tryd.prog 95 [.c (.ptr 0 0 0 0), .c (.int .i64 v)] [.cells 128 (Ty.enc tTrace t ++ [.map 1]), .map 164 tVal tVal n m] (.agg (Ty.enc tVal ((itselfM (spanM t k) t v (n, m)).1))) [.cells 128 (Ty.enc tTrace t ++ [.map 1]), .map 164 tVal tVal (itselfM (spanM t k) t v (n, m)).2.1 (itselfM (spanM t k) t v (n, m)).2.2] (List.range 2) :=
  AFunH.ofL (oc106 k) itself_lv 3000 Tryd.func95 mixed rfl (by decide) (Nat.le_of_ble_eq_true rfl) rfl rfl (Nat.le_of_ble_eq_true rfl) _ (itself_T_ok t n m v k) fun hF => by
    unfold itself_T
    refine g_need (by omega) ?_
    refine g_need (by omega) ?_
    refine g_iteD (fun h0 => ?_) (fun h0 => ?_)
    · refine g_iteD (fun h1 => ?_) (fun h1 => ?_)
      · rw [itM_con (t := t) (v := v) (rec := spanM t k) (m := (n, m)) h0 h1]
        refine g_fin ?_
        exact g_end [0, 1] (show ∀ k, k < 2 → ([0, 1] : List Nat)[k]? = some k by decide) (by decide) (⟨⟨rfl, rfl⟩, ⟨rfl, rfl⟩, trivial⟩) ⟨leB.refl _, rfl, trivial⟩
      · refine g_stop (RunN.keep [0, 1, 2, 3] (true :: true :: F2 (true :: true :: F32 (F32 (F16 (F8 (false :: [])))))) (show ∀ k, k < 2 → ([0, 1, 2, 3] : List Nat)[k]? = some k by decide) (by decide) rfl rfl ?_)
        exact itself_r4 t n m v k  bd hd hr hk hbl hm hi (by intro hq; first | exact h1 hq.2 | exact h0 hq.1)
    · refine g_stop (RunN.keep [0, 1, 2, 3] (true :: true :: F2 (true :: true :: F32 (F32 (F16 (F8 (false :: [])))))) (show ∀ k, k < 2 → ([0, 1, 2, 3] : List Nat)[k]? = some k by decide) (by decide) rfl rfl ?_)
      exact itself_r4 t n m v k  bd hd hr hk hbl hm hi (by intro hq; first | exact h1 hq.2 | exact h0 hq.1)

theorem lawArr : MapLaw Tryd.prog 164 tVal := by
  refine ⟨Maps.Keyed.of_law (deep_law_laid (P := Tryd.prog) (by kernel_rfl) (m := 3) (by omega) (of_decide_eq_true (by kernel_rfl)) (by kernel_rfl) (by kernel_rfl)), fun x hx => ?_⟩
  obtain ⟨a, b⟩ := x
  obtain ⟨ha, hb⟩ := hx
  have hf : (plainV tVal (a, b)).formed Tryd.prog 164 = true := by
    unfold plainV plainCs
    simp only [Value.formed, Ty.isPair, if_true]
    rw [Tryd.underlying164]
    rfl
  have hk : Tryd.prog.keyType 164 = true := by kernel_rfl
  obtain ⟨n, hn⟩ : ∃ n, Tryd.prog.types.size = n + 2 := ⟨Tryd.prog.types.size - 2, by kernel_rfl⟩
  have ci : Tryd.prog.cellsOf 3 = 1 := by kernel_rfl
  have c2 : Tryd.prog.cellsOf 164 = 2 := by kernel_rfl
  have wf : ∀ n : Int, inR .i64 n → (Lit.int .i64 n).wf = true := fun n h => by
    have := i64_iff.1 h
    simp [Lit.wf, IntKind.min, IntKind.max, IntKind.bits, IntKind.signed]
    omega
  have hl : ∃ ls, Tryd.prog.keyLits (n + 2 + 1) 164 [.int .i64 a, .int .i64 b] = some ls := by
    simp [Program.keyLits, Tryd.underlying164, Tryd.underlying3, ci, c2, List.range_succ, wf a ha, wf b hb]
  obtain ⟨ls, hls⟩ := hl
  refine ⟨.string (keyBytes ls), ?_⟩
  unfold keyOf
  rw [Tryd.underlying164]
  show (if (Tryd.prog.keyType 164 && (plainV tVal (a, b)).formed Tryd.prog 164) = true then _ else _) = _
  rw [if_pos (by rw [hk, hf]; rfl), hn]
  show Option.map _ (Tryd.prog.keyLits (n + 2 + 1) 164 [.int .i64 a, .int .i64 b]) = _
  rw [hls]
  rfl
noncomputable def oc107 (k : Nat) : Orc where
  pure := fun f args => match f, args with
    | _, _ => none
  heap := fun f args H => match f, args with
    | 95, [.one (.c (.ptr b0 0 0 0)), a1] => match cellsAs 128 H[b0]? with
      | some [c0_0_0, c0_0_1, c0_0_2, c0_0_3, c0_0_4, c0_0_5, c0_0_6, c0_0_7, c0_0_8, c0_0_9, c0_0_10, c0_0_11, c0_0_12, .map b1] => (match dA tI a1, dCs tTrace [c0_0_0, c0_0_1, c0_0_2, c0_0_3, c0_0_4, c0_0_5, c0_0_6, c0_0_7, c0_0_8, c0_0_9, c0_0_10, c0_0_11, c0_0_12], mapAs 164 tVal tVal H[b1]? with
        | some x1, some y0_0, some (n1, y1) => hres [b0, b1] H (.agg (Ty.enc tVal ((itselfM (spanM y0_0 k) y0_0 x1 (n1, y1)).1))) [.cells 128 [.int .i64 y0_0.1, .int .i64 y0_0.2.1, .int .i64 y0_0.2.2.1, .ro tIns y0_0.2.2.2.1, .ro tExit y0_0.2.2.2.2.1, .int .i64 y0_0.2.2.2.2.2.1.1, .int .i64 y0_0.2.2.2.2.2.1.2.1, .ro tVal y0_0.2.2.2.2.2.1.2.2.1, .ro tMake y0_0.2.2.2.2.2.1.2.2.2, .int .i64 y0_0.2.2.2.2.2.2.1, .int .i64 y0_0.2.2.2.2.2.2.2.1, .ro tVal y0_0.2.2.2.2.2.2.2.2.1, .ro tMake y0_0.2.2.2.2.2.2.2.2.2, .map 1], .map 164 tVal tVal (itselfM (spanM y0_0 k) y0_0 x1 (n1, y1)).2.1 (itselfM (spanM y0_0 k) y0_0 x1 (n1, y1)).2.2]
        | _, _, _ => none)
      | _ => none
    | 96, [.one (.c (.ptr b0 0 0 0)), a1] => match cellsAs 128 H[b0]? with
      | some [c0_0_0, c0_0_1, c0_0_2, c0_0_3, c0_0_4, c0_0_5, c0_0_6, c0_0_7, c0_0_8, c0_0_9, c0_0_10, c0_0_11, c0_0_12, .map b1] => (match dA tI a1, dCs tTrace [c0_0_0, c0_0_1, c0_0_2, c0_0_3, c0_0_4, c0_0_5, c0_0_6, c0_0_7, c0_0_8, c0_0_9, c0_0_10, c0_0_11, c0_0_12], mapAs 164 tVal tVal H[b1]? with
        | some x1, some y0_0, some (n1, y1) => hres [b0, b1] H (.c (.bool (intsF y0_0 x1))) [.cells 128 [.int .i64 y0_0.1, .int .i64 y0_0.2.1, .int .i64 y0_0.2.2.1, .ro tIns y0_0.2.2.2.1, .ro tExit y0_0.2.2.2.2.1, .int .i64 y0_0.2.2.2.2.2.1.1, .int .i64 y0_0.2.2.2.2.2.1.2.1, .ro tVal y0_0.2.2.2.2.2.1.2.2.1, .ro tMake y0_0.2.2.2.2.2.1.2.2.2, .int .i64 y0_0.2.2.2.2.2.2.1, .int .i64 y0_0.2.2.2.2.2.2.2.1, .ro tVal y0_0.2.2.2.2.2.2.2.2.1, .ro tMake y0_0.2.2.2.2.2.2.2.2.2, .map 1], .map 164 tVal tVal n1 y1]
        | _, _, _ => none)
      | _ => none
    | 97, [.one (.c (.ptr b0 0 0 0)), a1, a2, a3, a4, a5, a6] => match cellsAs 128 H[b0]? with
      | some [c0_0_0, c0_0_1, c0_0_2, c0_0_3, c0_0_4, c0_0_5, c0_0_6, c0_0_7, c0_0_8, c0_0_9, c0_0_10, c0_0_11, c0_0_12, .map b1] => (match dA tVal a1, dA tI a2, dA tI a3, dA tI a4, dA tI a5, dA tI a6, dCs tTrace [c0_0_0, c0_0_1, c0_0_2, c0_0_3, c0_0_4, c0_0_5, c0_0_6, c0_0_7, c0_0_8, c0_0_9, c0_0_10, c0_0_11, c0_0_12], mapAs 164 tVal tVal H[b1]? with
        | some x1, some x2, some x3, some x4, some x5, some x6, some y0_0, some (n1, y1) => hres [b0, b1] H (.agg (Ty.enc tVal ((narM (spanM y0_0 k) x1 x2 x3 x4 x5 x6 (n1, y1)).1))) [.cells 128 [.int .i64 y0_0.1, .int .i64 y0_0.2.1, .int .i64 y0_0.2.2.1, .ro tIns y0_0.2.2.2.1, .ro tExit y0_0.2.2.2.2.1, .int .i64 y0_0.2.2.2.2.2.1.1, .int .i64 y0_0.2.2.2.2.2.1.2.1, .ro tVal y0_0.2.2.2.2.2.1.2.2.1, .ro tMake y0_0.2.2.2.2.2.1.2.2.2, .int .i64 y0_0.2.2.2.2.2.2.1, .int .i64 y0_0.2.2.2.2.2.2.2.1, .ro tVal y0_0.2.2.2.2.2.2.2.2.1, .ro tMake y0_0.2.2.2.2.2.2.2.2.2, .map 1], .map 164 tVal tVal (narM (spanM y0_0 k) x1 x2 x3 x4 x5 x6 (n1, y1)).2.1 (narM (spanM y0_0 k) x1 x2 x3 x4 x5 x6 (n1, y1)).2.2]
        | _, _, _, _, _, _, _, _ => none)
      | _ => none
    | _, _ => none
def span_lv : LV := ⟨(true :: true :: true :: F2 (false :: true :: true :: F2 (true :: true :: true :: true :: F32 (F32 (F32 (F8 (F4 (F2 (false :: []))))))))), [13]⟩
noncomputable def span_T (t : ETrace) (n : Nat) (m : EVal → Option EVal) (v : Int) (a : Int) (k : Nat) : Tree :=
  .need (([0, 0]).length = 2) <|
  .need (2 ≤ ([v, a]).length) <|
  .need (Tryd.prog = Tryd.prog ∧ MapLaw Tryd.prog 164 tVal) <|
  .ite ((m ((([v, a]).getD 0 tI.dflt), (([v, a]).getD 1 tI.dflt))).isSome)
  (.ret (.agg [.int .i64 ((m ((([v, a]).getD 0 tI.dflt), (([v, a]).getD 1 tI.dflt))).getD (0, 0)).1, .int .i64 ((m ((([v, a]).getD 0 tI.dflt), (([v, a]).getD 1 tI.dflt))).getD (0, 0)).2]) [.cells 128 (Ty.enc tTrace t ++ [.map 1]), .map 164 tVal tVal n m, .cells 130 [.int .i64 ((m ((([v, a]).getD 0 tI.dflt), (([v, a]).getD 1 tI.dflt))).getD (0, 0)).1, .int .i64 ((m ((([v, a]).getD 0 tI.dflt), (([v, a]).getD 1 tI.dflt))).getD (0, 0)).2], .vec 164 tI ([v, a]), .cells 130 [.int .i64 ((m ((([v, a]).getD 0 tI.dflt), (([v, a]).getD 1 tI.dflt))).getD (0, 0)).1, .int .i64 ((m ((([v, a]).getD 0 tI.dflt), (([v, a]).getD 1 tI.dflt))).getD (0, 0)).2]])
  (.callH 95 [.c (.ptr 0 0 0 0), .c (.int .i64 v)] [.cells 128 (Ty.enc tTrace t ++ [.map 1]), .map 164 tVal tVal n m, .cells 130 [.int .i64 0, .int .i64 0], .vec 164 tI ([v, a]), .cells 130 [.int .i64 ((m ((([v, a]).getD 0 tI.dflt), (([v, a]).getD 1 tI.dflt))).getD (0, 0)).1, .int .i64 ((m ((([v, a]).getD 0 tI.dflt), (([v, a]).getD 1 tI.dflt))).getD (0, 0)).2]] (.agg [.int .i64 (itselfM (spanM t k) t v (n, m)).1.1, .int .i64 (itselfM (spanM t k) t v (n, m)).1.2]) [.cells 128 (Ty.enc tTrace t ++ [.map 1]), .map 164 tVal tVal (itselfM (spanM t k) t v (n, m)).2.1 (itselfM (spanM t k) t v (n, m)).2.2, .cells 130 [.int .i64 0, .int .i64 0], .vec 164 tI ([v, a]), .cells 130 [.int .i64 ((m ((([v, a]).getD 0 tI.dflt), (([v, a]).getD 1 tI.dflt))).getD (0, 0)).1, .int .i64 ((m ((([v, a]).getD 0 tI.dflt), (([v, a]).getD 1 tI.dflt))).getD (0, 0)).2]] [0, 1] <|
   .need (inR .i64 (v + 1)) <|
   .stop (lp (bodyOf Tryd.f62) 0) (.c (.ptr 0 0 0 0) :: .c (.int .i64 v) :: .c (.int .i64 a) :: J2 (.junk :: .c (.ptr 2 0 0 0) :: .c (.ptr 3 0 0 0) :: J2 (.c (.ptr 5 0 0 0) :: .c (.int .i64 (v + 1)) :: J32 (J32 (J32 (J16 (.junk :: []))))))) [.cells 128 (Ty.enc tTrace t ++ [.map 1]), .map 164 tVal tVal (itselfM (spanM t k) t v (n, m)).2.1 (itselfM (spanM t k) t v (n, m)).2.2, .cells 130 [.int .i64 0, .int .i64 0], .vec 164 tI ([v, a]), .cells 130 [.int .i64 ((m ((([v, a]).getD 0 tI.dflt), (([v, a]).getD 1 tI.dflt))).getD (0, 0)).1, .int .i64 ((m ((([v, a]).getD 0 tI.dflt), (([v, a]).getD 1 tI.dflt))).getD (0, 0)).2], .cells 130 [.int .i64 (itselfM (spanM t k) t v (n, m)).1.1, .int .i64 (itselfM (spanM t k) t v (n, m)).1.2]])
theorem span_T_ok (t : ETrace) (n : Nat) (m : EVal → Option EVal) (v : Int) (a : Int) (k : Nat) : aRun Tryd.prog (oc107 k) Tryd.f62 span_lv 3000 [.code (bodyOf Tryd.f62)] ([.c (.ptr 0 0 0 0), .c (.int .i64 v), .c (.int .i64 a)] ++ List.replicate (Func.ntmps Tryd.f62 - 3) .junk) [.cells 128 (Ty.enc tTrace t ++ [.map 1]), .map 164 tVal tVal n m] = span_T t n m v a k := by kernel_rfl
noncomputable def span_l0_R (t : ETrace) (n : Nat) (m : EVal → Option EVal) (v : Int) (a : Int) (k : Nat) (i : Int) (n1 : Nat) (m1 : EVal → Option EVal) (s0 : Int) (s1 : Int) : Tree :=
  .ite (decide (i < a))
  (.need ((0 : Int) ≤ i ∧ (i : Int) < (t.2.2.2.1.length : Int)) <|
   .need ((Int.toNat i) < t.2.2.2.1.length) <|
   .ite ((!(decide ((t.2.2.2.1.getD (Int.toNat i) tIns.dflt).1 = 5))))
   (.need (inR .i64 (i + 1)) <|
    .stop (lp (bodyOf Tryd.f62) 0) (.c (.ptr 0 0 0 0) :: .c (.int .i64 v) :: .c (.int .i64 a) :: J2 (.junk :: .c (.ptr 2 0 0 0) :: .c (.ptr 3 0 0 0) :: J2 (.c (.ptr 4 0 0 0) :: .c (.int .i64 (i + 1)) :: .c (.ptr 5 0 0 0) :: J32 (J32 (J32 (J16 ([]))))))) [.cells 128 (Ty.enc tTrace t ++ [.map 1]), .map 164 tVal tVal n1 m1, .cells 130 [.int .i64 0, .int .i64 0], .vec 164 tI ([v, a]), .cells 130 [.int .i64 s0, .int .i64 s1], .cells 46 [.int .i64 (t.2.2.2.1.getD (Int.toNat i) tIns.dflt).1, .int .i64 (t.2.2.2.1.getD (Int.toNat i) tIns.dflt).2.1, .int .i64 (t.2.2.2.1.getD (Int.toNat i) tIns.dflt).2.2.1, .int .i64 (t.2.2.2.1.getD (Int.toNat i) tIns.dflt).2.2.2.1, .int .i64 (t.2.2.2.1.getD (Int.toNat i) tIns.dflt).2.2.2.2.1, .int .i64 (t.2.2.2.1.getD (Int.toNat i) tIns.dflt).2.2.2.2.2.1, .int .i64 (t.2.2.2.1.getD (Int.toNat i) tIns.dflt).2.2.2.2.2.2.1, .int .i64 (t.2.2.2.1.getD (Int.toNat i) tIns.dflt).2.2.2.2.2.2.2]])
   (.need ((0 : Int) ≤ (t.2.2.2.1.getD (Int.toNat i) tIns.dflt).2.1 ∧ ((t.2.2.2.1.getD (Int.toNat i) tIns.dflt).2.1 : Int) < (t.2.2.2.1.length : Int)) <|
    .need ((Int.toNat (t.2.2.2.1.getD (Int.toNat i) tIns.dflt).2.1) < t.2.2.2.1.length) <|
    .ite ((!(decide ((t.2.2.2.1.getD (Int.toNat (t.2.2.2.1.getD (Int.toNat i) tIns.dflt).2.1) tIns.dflt).1 = 7))))
    (.need (inR .i64 (i + 1)) <|
     .stop (lp (bodyOf Tryd.f62) 0) (.c (.ptr 0 0 0 0) :: .c (.int .i64 v) :: .c (.int .i64 a) :: J2 (.junk :: .c (.ptr 2 0 0 0) :: .c (.ptr 3 0 0 0) :: J2 (.c (.ptr 4 0 0 0) :: .c (.int .i64 (i + 1)) :: .c (.ptr 5 0 0 0) :: .c (.ptr 6 0 0 0) :: J32 (J32 (J32 (J8 (J4 (J2 (.junk :: []))))))))) [.cells 128 (Ty.enc tTrace t ++ [.map 1]), .map 164 tVal tVal n1 m1, .cells 130 [.int .i64 0, .int .i64 0], .vec 164 tI ([v, a]), .cells 130 [.int .i64 s0, .int .i64 s1], .cells 46 [.int .i64 (t.2.2.2.1.getD (Int.toNat i) tIns.dflt).1, .int .i64 (t.2.2.2.1.getD (Int.toNat i) tIns.dflt).2.1, .int .i64 (t.2.2.2.1.getD (Int.toNat i) tIns.dflt).2.2.1, .int .i64 (t.2.2.2.1.getD (Int.toNat i) tIns.dflt).2.2.2.1, .int .i64 (t.2.2.2.1.getD (Int.toNat i) tIns.dflt).2.2.2.2.1, .int .i64 (t.2.2.2.1.getD (Int.toNat i) tIns.dflt).2.2.2.2.2.1, .int .i64 (t.2.2.2.1.getD (Int.toNat i) tIns.dflt).2.2.2.2.2.2.1, .int .i64 (t.2.2.2.1.getD (Int.toNat i) tIns.dflt).2.2.2.2.2.2.2], .cells 46 [.int .i64 (t.2.2.2.1.getD (Int.toNat (t.2.2.2.1.getD (Int.toNat i) tIns.dflt).2.1) tIns.dflt).1, .int .i64 (t.2.2.2.1.getD (Int.toNat (t.2.2.2.1.getD (Int.toNat i) tIns.dflt).2.1) tIns.dflt).2.1, .int .i64 (t.2.2.2.1.getD (Int.toNat (t.2.2.2.1.getD (Int.toNat i) tIns.dflt).2.1) tIns.dflt).2.2.1, .int .i64 (t.2.2.2.1.getD (Int.toNat (t.2.2.2.1.getD (Int.toNat i) tIns.dflt).2.1) tIns.dflt).2.2.2.1, .int .i64 (t.2.2.2.1.getD (Int.toNat (t.2.2.2.1.getD (Int.toNat i) tIns.dflt).2.1) tIns.dflt).2.2.2.2.1, .int .i64 (t.2.2.2.1.getD (Int.toNat (t.2.2.2.1.getD (Int.toNat i) tIns.dflt).2.1) tIns.dflt).2.2.2.2.2.1, .int .i64 (t.2.2.2.1.getD (Int.toNat (t.2.2.2.1.getD (Int.toNat i) tIns.dflt).2.1) tIns.dflt).2.2.2.2.2.2.1, .int .i64 (t.2.2.2.1.getD (Int.toNat (t.2.2.2.1.getD (Int.toNat i) tIns.dflt).2.1) tIns.dflt).2.2.2.2.2.2.2]])
    (.ite ((!(decide ((t.2.2.2.1.getD (Int.toNat (t.2.2.2.1.getD (Int.toNat i) tIns.dflt).2.1) tIns.dflt).2.2.2.2.1 = 9))))
     (.ite ((!(decide ((t.2.2.2.1.getD (Int.toNat (t.2.2.2.1.getD (Int.toNat i) tIns.dflt).2.1) tIns.dflt).2.2.2.2.1 = 10))))
      (.need (inR .i64 (i + 1)) <|
       .stop (lp (bodyOf Tryd.f62) 0) (.c (.ptr 0 0 0 0) :: .c (.int .i64 v) :: .c (.int .i64 a) :: J2 (.junk :: .c (.ptr 2 0 0 0) :: .c (.ptr 3 0 0 0) :: J2 (.c (.ptr 4 0 0 0) :: .c (.int .i64 (i + 1)) :: .c (.ptr 5 0 0 0) :: .c (.ptr 6 0 0 0) :: J32 (J32 (J32 (J8 (J4 (J2 (.junk :: []))))))))) [.cells 128 (Ty.enc tTrace t ++ [.map 1]), .map 164 tVal tVal n1 m1, .cells 130 [.int .i64 0, .int .i64 0], .vec 164 tI ([v, a]), .cells 130 [.int .i64 s0, .int .i64 s1], .cells 46 [.int .i64 (t.2.2.2.1.getD (Int.toNat i) tIns.dflt).1, .int .i64 (t.2.2.2.1.getD (Int.toNat i) tIns.dflt).2.1, .int .i64 (t.2.2.2.1.getD (Int.toNat i) tIns.dflt).2.2.1, .int .i64 (t.2.2.2.1.getD (Int.toNat i) tIns.dflt).2.2.2.1, .int .i64 (t.2.2.2.1.getD (Int.toNat i) tIns.dflt).2.2.2.2.1, .int .i64 (t.2.2.2.1.getD (Int.toNat i) tIns.dflt).2.2.2.2.2.1, .int .i64 (t.2.2.2.1.getD (Int.toNat i) tIns.dflt).2.2.2.2.2.2.1, .int .i64 (t.2.2.2.1.getD (Int.toNat i) tIns.dflt).2.2.2.2.2.2.2], .cells 46 [.int .i64 (t.2.2.2.1.getD (Int.toNat (t.2.2.2.1.getD (Int.toNat i) tIns.dflt).2.1) tIns.dflt).1, .int .i64 (t.2.2.2.1.getD (Int.toNat (t.2.2.2.1.getD (Int.toNat i) tIns.dflt).2.1) tIns.dflt).2.1, .int .i64 (t.2.2.2.1.getD (Int.toNat (t.2.2.2.1.getD (Int.toNat i) tIns.dflt).2.1) tIns.dflt).2.2.1, .int .i64 (t.2.2.2.1.getD (Int.toNat (t.2.2.2.1.getD (Int.toNat i) tIns.dflt).2.1) tIns.dflt).2.2.2.1, .int .i64 (t.2.2.2.1.getD (Int.toNat (t.2.2.2.1.getD (Int.toNat i) tIns.dflt).2.1) tIns.dflt).2.2.2.2.1, .int .i64 (t.2.2.2.1.getD (Int.toNat (t.2.2.2.1.getD (Int.toNat i) tIns.dflt).2.1) tIns.dflt).2.2.2.2.2.1, .int .i64 (t.2.2.2.1.getD (Int.toNat (t.2.2.2.1.getD (Int.toNat i) tIns.dflt).2.1) tIns.dflt).2.2.2.2.2.2.1, .int .i64 (t.2.2.2.1.getD (Int.toNat (t.2.2.2.1.getD (Int.toNat i) tIns.dflt).2.1) tIns.dflt).2.2.2.2.2.2.2]])
      (.ite ((!(decide ((t.2.2.2.1.getD (Int.toNat (t.2.2.2.1.getD (Int.toNat i) tIns.dflt).2.1) tIns.dflt).2.1 = v))))
       (.ite ((!(decide ((t.2.2.2.1.getD (Int.toNat (t.2.2.2.1.getD (Int.toNat i) tIns.dflt).2.1) tIns.dflt).2.2.1 = v))))
        (.need (inR .i64 (i + 1)) <|
         .stop (lp (bodyOf Tryd.f62) 0) (.c (.ptr 0 0 0 0) :: .c (.int .i64 v) :: .c (.int .i64 a) :: J2 (.junk :: .c (.ptr 2 0 0 0) :: .c (.ptr 3 0 0 0) :: J2 (.c (.ptr 4 0 0 0) :: .c (.int .i64 (i + 1)) :: .c (.ptr 5 0 0 0) :: .c (.ptr 6 0 0 0) :: J32 (J32 (J32 (J8 (J4 (J2 (.junk :: []))))))))) [.cells 128 (Ty.enc tTrace t ++ [.map 1]), .map 164 tVal tVal n1 m1, .cells 130 [.int .i64 0, .int .i64 0], .vec 164 tI ([v, a]), .cells 130 [.int .i64 s0, .int .i64 s1], .cells 46 [.int .i64 (t.2.2.2.1.getD (Int.toNat i) tIns.dflt).1, .int .i64 (t.2.2.2.1.getD (Int.toNat i) tIns.dflt).2.1, .int .i64 (t.2.2.2.1.getD (Int.toNat i) tIns.dflt).2.2.1, .int .i64 (t.2.2.2.1.getD (Int.toNat i) tIns.dflt).2.2.2.1, .int .i64 (t.2.2.2.1.getD (Int.toNat i) tIns.dflt).2.2.2.2.1, .int .i64 (t.2.2.2.1.getD (Int.toNat i) tIns.dflt).2.2.2.2.2.1, .int .i64 (t.2.2.2.1.getD (Int.toNat i) tIns.dflt).2.2.2.2.2.2.1, .int .i64 (t.2.2.2.1.getD (Int.toNat i) tIns.dflt).2.2.2.2.2.2.2], .cells 46 [.int .i64 (t.2.2.2.1.getD (Int.toNat (t.2.2.2.1.getD (Int.toNat i) tIns.dflt).2.1) tIns.dflt).1, .int .i64 (t.2.2.2.1.getD (Int.toNat (t.2.2.2.1.getD (Int.toNat i) tIns.dflt).2.1) tIns.dflt).2.1, .int .i64 (t.2.2.2.1.getD (Int.toNat (t.2.2.2.1.getD (Int.toNat i) tIns.dflt).2.1) tIns.dflt).2.2.1, .int .i64 (t.2.2.2.1.getD (Int.toNat (t.2.2.2.1.getD (Int.toNat i) tIns.dflt).2.1) tIns.dflt).2.2.2.1, .int .i64 (t.2.2.2.1.getD (Int.toNat (t.2.2.2.1.getD (Int.toNat i) tIns.dflt).2.1) tIns.dflt).2.2.2.2.1, .int .i64 (t.2.2.2.1.getD (Int.toNat (t.2.2.2.1.getD (Int.toNat i) tIns.dflt).2.1) tIns.dflt).2.2.2.2.2.1, .int .i64 (t.2.2.2.1.getD (Int.toNat (t.2.2.2.1.getD (Int.toNat i) tIns.dflt).2.1) tIns.dflt).2.2.2.2.2.2.1, .int .i64 (t.2.2.2.1.getD (Int.toNat (t.2.2.2.1.getD (Int.toNat i) tIns.dflt).2.1) tIns.dflt).2.2.2.2.2.2.2]])
        (.callH 96 [.c (.ptr 0 0 0 0), .c (.int .i64 (t.2.2.2.1.getD (Int.toNat i) tIns.dflt).2.1)] [.cells 128 (Ty.enc tTrace t ++ [.map 1]), .map 164 tVal tVal n1 m1, .cells 130 [.int .i64 0, .int .i64 0], .vec 164 tI ([v, a]), .cells 130 [.int .i64 s0, .int .i64 s1], .cells 46 [.int .i64 (t.2.2.2.1.getD (Int.toNat i) tIns.dflt).1, .int .i64 (t.2.2.2.1.getD (Int.toNat i) tIns.dflt).2.1, .int .i64 (t.2.2.2.1.getD (Int.toNat i) tIns.dflt).2.2.1, .int .i64 (t.2.2.2.1.getD (Int.toNat i) tIns.dflt).2.2.2.1, .int .i64 (t.2.2.2.1.getD (Int.toNat i) tIns.dflt).2.2.2.2.1, .int .i64 (t.2.2.2.1.getD (Int.toNat i) tIns.dflt).2.2.2.2.2.1, .int .i64 (t.2.2.2.1.getD (Int.toNat i) tIns.dflt).2.2.2.2.2.2.1, .int .i64 (t.2.2.2.1.getD (Int.toNat i) tIns.dflt).2.2.2.2.2.2.2], .cells 46 [.int .i64 (t.2.2.2.1.getD (Int.toNat (t.2.2.2.1.getD (Int.toNat i) tIns.dflt).2.1) tIns.dflt).1, .int .i64 (t.2.2.2.1.getD (Int.toNat (t.2.2.2.1.getD (Int.toNat i) tIns.dflt).2.1) tIns.dflt).2.1, .int .i64 (t.2.2.2.1.getD (Int.toNat (t.2.2.2.1.getD (Int.toNat i) tIns.dflt).2.1) tIns.dflt).2.2.1, .int .i64 (t.2.2.2.1.getD (Int.toNat (t.2.2.2.1.getD (Int.toNat i) tIns.dflt).2.1) tIns.dflt).2.2.2.1, .int .i64 (t.2.2.2.1.getD (Int.toNat (t.2.2.2.1.getD (Int.toNat i) tIns.dflt).2.1) tIns.dflt).2.2.2.2.1, .int .i64 (t.2.2.2.1.getD (Int.toNat (t.2.2.2.1.getD (Int.toNat i) tIns.dflt).2.1) tIns.dflt).2.2.2.2.2.1, .int .i64 (t.2.2.2.1.getD (Int.toNat (t.2.2.2.1.getD (Int.toNat i) tIns.dflt).2.1) tIns.dflt).2.2.2.2.2.2.1, .int .i64 (t.2.2.2.1.getD (Int.toNat (t.2.2.2.1.getD (Int.toNat i) tIns.dflt).2.1) tIns.dflt).2.2.2.2.2.2.2]] (.c (.bool (intsF t (t.2.2.2.1.getD (Int.toNat i) tIns.dflt).2.1))) [.cells 128 (Ty.enc tTrace t ++ [.map 1]), .map 164 tVal tVal n1 m1, .cells 130 [.int .i64 0, .int .i64 0], .vec 164 tI ([v, a]), .cells 130 [.int .i64 s0, .int .i64 s1], .cells 46 [.int .i64 (t.2.2.2.1.getD (Int.toNat i) tIns.dflt).1, .int .i64 (t.2.2.2.1.getD (Int.toNat i) tIns.dflt).2.1, .int .i64 (t.2.2.2.1.getD (Int.toNat i) tIns.dflt).2.2.1, .int .i64 (t.2.2.2.1.getD (Int.toNat i) tIns.dflt).2.2.2.1, .int .i64 (t.2.2.2.1.getD (Int.toNat i) tIns.dflt).2.2.2.2.1, .int .i64 (t.2.2.2.1.getD (Int.toNat i) tIns.dflt).2.2.2.2.2.1, .int .i64 (t.2.2.2.1.getD (Int.toNat i) tIns.dflt).2.2.2.2.2.2.1, .int .i64 (t.2.2.2.1.getD (Int.toNat i) tIns.dflt).2.2.2.2.2.2.2], .cells 46 [.int .i64 (t.2.2.2.1.getD (Int.toNat (t.2.2.2.1.getD (Int.toNat i) tIns.dflt).2.1) tIns.dflt).1, .int .i64 (t.2.2.2.1.getD (Int.toNat (t.2.2.2.1.getD (Int.toNat i) tIns.dflt).2.1) tIns.dflt).2.1, .int .i64 (t.2.2.2.1.getD (Int.toNat (t.2.2.2.1.getD (Int.toNat i) tIns.dflt).2.1) tIns.dflt).2.2.1, .int .i64 (t.2.2.2.1.getD (Int.toNat (t.2.2.2.1.getD (Int.toNat i) tIns.dflt).2.1) tIns.dflt).2.2.2.1, .int .i64 (t.2.2.2.1.getD (Int.toNat (t.2.2.2.1.getD (Int.toNat i) tIns.dflt).2.1) tIns.dflt).2.2.2.2.1, .int .i64 (t.2.2.2.1.getD (Int.toNat (t.2.2.2.1.getD (Int.toNat i) tIns.dflt).2.1) tIns.dflt).2.2.2.2.2.1, .int .i64 (t.2.2.2.1.getD (Int.toNat (t.2.2.2.1.getD (Int.toNat i) tIns.dflt).2.1) tIns.dflt).2.2.2.2.2.2.1, .int .i64 (t.2.2.2.1.getD (Int.toNat (t.2.2.2.1.getD (Int.toNat i) tIns.dflt).2.1) tIns.dflt).2.2.2.2.2.2.2]] [0, 1] <|
         .ite ((!(intsF t (t.2.2.2.1.getD (Int.toNat i) tIns.dflt).2.1)))
         (.need (inR .i64 (i + 1)) <|
          .stop (lp (bodyOf Tryd.f62) 0) (.c (.ptr 0 0 0 0) :: .c (.int .i64 v) :: .c (.int .i64 a) :: J2 (.junk :: .c (.ptr 2 0 0 0) :: .c (.ptr 3 0 0 0) :: J2 (.c (.ptr 4 0 0 0) :: .c (.int .i64 (i + 1)) :: .c (.ptr 5 0 0 0) :: .c (.ptr 6 0 0 0) :: J32 (J32 (J32 (J8 (J4 (J2 (.junk :: []))))))))) [.cells 128 (Ty.enc tTrace t ++ [.map 1]), .map 164 tVal tVal n1 m1, .cells 130 [.int .i64 0, .int .i64 0], .vec 164 tI ([v, a]), .cells 130 [.int .i64 s0, .int .i64 s1], .cells 46 [.int .i64 (t.2.2.2.1.getD (Int.toNat i) tIns.dflt).1, .int .i64 (t.2.2.2.1.getD (Int.toNat i) tIns.dflt).2.1, .int .i64 (t.2.2.2.1.getD (Int.toNat i) tIns.dflt).2.2.1, .int .i64 (t.2.2.2.1.getD (Int.toNat i) tIns.dflt).2.2.2.1, .int .i64 (t.2.2.2.1.getD (Int.toNat i) tIns.dflt).2.2.2.2.1, .int .i64 (t.2.2.2.1.getD (Int.toNat i) tIns.dflt).2.2.2.2.2.1, .int .i64 (t.2.2.2.1.getD (Int.toNat i) tIns.dflt).2.2.2.2.2.2.1, .int .i64 (t.2.2.2.1.getD (Int.toNat i) tIns.dflt).2.2.2.2.2.2.2], .cells 46 [.int .i64 (t.2.2.2.1.getD (Int.toNat (t.2.2.2.1.getD (Int.toNat i) tIns.dflt).2.1) tIns.dflt).1, .int .i64 (t.2.2.2.1.getD (Int.toNat (t.2.2.2.1.getD (Int.toNat i) tIns.dflt).2.1) tIns.dflt).2.1, .int .i64 (t.2.2.2.1.getD (Int.toNat (t.2.2.2.1.getD (Int.toNat i) tIns.dflt).2.1) tIns.dflt).2.2.1, .int .i64 (t.2.2.2.1.getD (Int.toNat (t.2.2.2.1.getD (Int.toNat i) tIns.dflt).2.1) tIns.dflt).2.2.2.1, .int .i64 (t.2.2.2.1.getD (Int.toNat (t.2.2.2.1.getD (Int.toNat i) tIns.dflt).2.1) tIns.dflt).2.2.2.2.1, .int .i64 (t.2.2.2.1.getD (Int.toNat (t.2.2.2.1.getD (Int.toNat i) tIns.dflt).2.1) tIns.dflt).2.2.2.2.2.1, .int .i64 (t.2.2.2.1.getD (Int.toNat (t.2.2.2.1.getD (Int.toNat i) tIns.dflt).2.1) tIns.dflt).2.2.2.2.2.2.1, .int .i64 (t.2.2.2.1.getD (Int.toNat (t.2.2.2.1.getD (Int.toNat i) tIns.dflt).2.1) tIns.dflt).2.2.2.2.2.2.2]])
         (.stop (rg (bodyOf Tryd.f62) 13) (.c (.ptr 0 0 0 0) :: .c (.int .i64 v) :: .c (.int .i64 a) :: J2 (.junk :: .c (.ptr 2 0 0 0) :: .c (.ptr 3 0 0 0) :: J2 (.c (.ptr 4 0 0 0) :: .c (.int .i64 i) :: .c (.ptr 5 0 0 0) :: .c (.ptr 6 0 0 0) :: J32 (J32 (J32 (J8 (J4 (J2 (.junk :: []))))))))) [.cells 128 (Ty.enc tTrace t ++ [.map 1]), .map 164 tVal tVal n1 m1, .cells 130 [.int .i64 0, .int .i64 0], .vec 164 tI ([v, a]), .cells 130 [.int .i64 s0, .int .i64 s1], .cells 46 [.int .i64 (t.2.2.2.1.getD (Int.toNat i) tIns.dflt).1, .int .i64 (t.2.2.2.1.getD (Int.toNat i) tIns.dflt).2.1, .int .i64 (t.2.2.2.1.getD (Int.toNat i) tIns.dflt).2.2.1, .int .i64 (t.2.2.2.1.getD (Int.toNat i) tIns.dflt).2.2.2.1, .int .i64 (t.2.2.2.1.getD (Int.toNat i) tIns.dflt).2.2.2.2.1, .int .i64 (t.2.2.2.1.getD (Int.toNat i) tIns.dflt).2.2.2.2.2.1, .int .i64 (t.2.2.2.1.getD (Int.toNat i) tIns.dflt).2.2.2.2.2.2.1, .int .i64 (t.2.2.2.1.getD (Int.toNat i) tIns.dflt).2.2.2.2.2.2.2], .cells 46 [.int .i64 (t.2.2.2.1.getD (Int.toNat (t.2.2.2.1.getD (Int.toNat i) tIns.dflt).2.1) tIns.dflt).1, .int .i64 (t.2.2.2.1.getD (Int.toNat (t.2.2.2.1.getD (Int.toNat i) tIns.dflt).2.1) tIns.dflt).2.1, .int .i64 (t.2.2.2.1.getD (Int.toNat (t.2.2.2.1.getD (Int.toNat i) tIns.dflt).2.1) tIns.dflt).2.2.1, .int .i64 (t.2.2.2.1.getD (Int.toNat (t.2.2.2.1.getD (Int.toNat i) tIns.dflt).2.1) tIns.dflt).2.2.2.1, .int .i64 (t.2.2.2.1.getD (Int.toNat (t.2.2.2.1.getD (Int.toNat i) tIns.dflt).2.1) tIns.dflt).2.2.2.2.1, .int .i64 (t.2.2.2.1.getD (Int.toNat (t.2.2.2.1.getD (Int.toNat i) tIns.dflt).2.1) tIns.dflt).2.2.2.2.2.1, .int .i64 (t.2.2.2.1.getD (Int.toNat (t.2.2.2.1.getD (Int.toNat i) tIns.dflt).2.1) tIns.dflt).2.2.2.2.2.2.1, .int .i64 (t.2.2.2.1.getD (Int.toNat (t.2.2.2.1.getD (Int.toNat i) tIns.dflt).2.1) tIns.dflt).2.2.2.2.2.2.2]])))
       (.callH 96 [.c (.ptr 0 0 0 0), .c (.int .i64 (t.2.2.2.1.getD (Int.toNat i) tIns.dflt).2.1)] [.cells 128 (Ty.enc tTrace t ++ [.map 1]), .map 164 tVal tVal n1 m1, .cells 130 [.int .i64 0, .int .i64 0], .vec 164 tI ([v, a]), .cells 130 [.int .i64 s0, .int .i64 s1], .cells 46 [.int .i64 (t.2.2.2.1.getD (Int.toNat i) tIns.dflt).1, .int .i64 (t.2.2.2.1.getD (Int.toNat i) tIns.dflt).2.1, .int .i64 (t.2.2.2.1.getD (Int.toNat i) tIns.dflt).2.2.1, .int .i64 (t.2.2.2.1.getD (Int.toNat i) tIns.dflt).2.2.2.1, .int .i64 (t.2.2.2.1.getD (Int.toNat i) tIns.dflt).2.2.2.2.1, .int .i64 (t.2.2.2.1.getD (Int.toNat i) tIns.dflt).2.2.2.2.2.1, .int .i64 (t.2.2.2.1.getD (Int.toNat i) tIns.dflt).2.2.2.2.2.2.1, .int .i64 (t.2.2.2.1.getD (Int.toNat i) tIns.dflt).2.2.2.2.2.2.2], .cells 46 [.int .i64 (t.2.2.2.1.getD (Int.toNat (t.2.2.2.1.getD (Int.toNat i) tIns.dflt).2.1) tIns.dflt).1, .int .i64 (t.2.2.2.1.getD (Int.toNat (t.2.2.2.1.getD (Int.toNat i) tIns.dflt).2.1) tIns.dflt).2.1, .int .i64 (t.2.2.2.1.getD (Int.toNat (t.2.2.2.1.getD (Int.toNat i) tIns.dflt).2.1) tIns.dflt).2.2.1, .int .i64 (t.2.2.2.1.getD (Int.toNat (t.2.2.2.1.getD (Int.toNat i) tIns.dflt).2.1) tIns.dflt).2.2.2.1, .int .i64 (t.2.2.2.1.getD (Int.toNat (t.2.2.2.1.getD (Int.toNat i) tIns.dflt).2.1) tIns.dflt).2.2.2.2.1, .int .i64 (t.2.2.2.1.getD (Int.toNat (t.2.2.2.1.getD (Int.toNat i) tIns.dflt).2.1) tIns.dflt).2.2.2.2.2.1, .int .i64 (t.2.2.2.1.getD (Int.toNat (t.2.2.2.1.getD (Int.toNat i) tIns.dflt).2.1) tIns.dflt).2.2.2.2.2.2.1, .int .i64 (t.2.2.2.1.getD (Int.toNat (t.2.2.2.1.getD (Int.toNat i) tIns.dflt).2.1) tIns.dflt).2.2.2.2.2.2.2]] (.c (.bool (intsF t (t.2.2.2.1.getD (Int.toNat i) tIns.dflt).2.1))) [.cells 128 (Ty.enc tTrace t ++ [.map 1]), .map 164 tVal tVal n1 m1, .cells 130 [.int .i64 0, .int .i64 0], .vec 164 tI ([v, a]), .cells 130 [.int .i64 s0, .int .i64 s1], .cells 46 [.int .i64 (t.2.2.2.1.getD (Int.toNat i) tIns.dflt).1, .int .i64 (t.2.2.2.1.getD (Int.toNat i) tIns.dflt).2.1, .int .i64 (t.2.2.2.1.getD (Int.toNat i) tIns.dflt).2.2.1, .int .i64 (t.2.2.2.1.getD (Int.toNat i) tIns.dflt).2.2.2.1, .int .i64 (t.2.2.2.1.getD (Int.toNat i) tIns.dflt).2.2.2.2.1, .int .i64 (t.2.2.2.1.getD (Int.toNat i) tIns.dflt).2.2.2.2.2.1, .int .i64 (t.2.2.2.1.getD (Int.toNat i) tIns.dflt).2.2.2.2.2.2.1, .int .i64 (t.2.2.2.1.getD (Int.toNat i) tIns.dflt).2.2.2.2.2.2.2], .cells 46 [.int .i64 (t.2.2.2.1.getD (Int.toNat (t.2.2.2.1.getD (Int.toNat i) tIns.dflt).2.1) tIns.dflt).1, .int .i64 (t.2.2.2.1.getD (Int.toNat (t.2.2.2.1.getD (Int.toNat i) tIns.dflt).2.1) tIns.dflt).2.1, .int .i64 (t.2.2.2.1.getD (Int.toNat (t.2.2.2.1.getD (Int.toNat i) tIns.dflt).2.1) tIns.dflt).2.2.1, .int .i64 (t.2.2.2.1.getD (Int.toNat (t.2.2.2.1.getD (Int.toNat i) tIns.dflt).2.1) tIns.dflt).2.2.2.1, .int .i64 (t.2.2.2.1.getD (Int.toNat (t.2.2.2.1.getD (Int.toNat i) tIns.dflt).2.1) tIns.dflt).2.2.2.2.1, .int .i64 (t.2.2.2.1.getD (Int.toNat (t.2.2.2.1.getD (Int.toNat i) tIns.dflt).2.1) tIns.dflt).2.2.2.2.2.1, .int .i64 (t.2.2.2.1.getD (Int.toNat (t.2.2.2.1.getD (Int.toNat i) tIns.dflt).2.1) tIns.dflt).2.2.2.2.2.2.1, .int .i64 (t.2.2.2.1.getD (Int.toNat (t.2.2.2.1.getD (Int.toNat i) tIns.dflt).2.1) tIns.dflt).2.2.2.2.2.2.2]] [0, 1] <|
        .ite ((!(intsF t (t.2.2.2.1.getD (Int.toNat i) tIns.dflt).2.1)))
        (.need (inR .i64 (i + 1)) <|
         .stop (lp (bodyOf Tryd.f62) 0) (.c (.ptr 0 0 0 0) :: .c (.int .i64 v) :: .c (.int .i64 a) :: J2 (.junk :: .c (.ptr 2 0 0 0) :: .c (.ptr 3 0 0 0) :: J2 (.c (.ptr 4 0 0 0) :: .c (.int .i64 (i + 1)) :: .c (.ptr 5 0 0 0) :: .c (.ptr 6 0 0 0) :: J32 (J32 (J32 (J8 (J4 (J2 (.junk :: []))))))))) [.cells 128 (Ty.enc tTrace t ++ [.map 1]), .map 164 tVal tVal n1 m1, .cells 130 [.int .i64 0, .int .i64 0], .vec 164 tI ([v, a]), .cells 130 [.int .i64 s0, .int .i64 s1], .cells 46 [.int .i64 (t.2.2.2.1.getD (Int.toNat i) tIns.dflt).1, .int .i64 (t.2.2.2.1.getD (Int.toNat i) tIns.dflt).2.1, .int .i64 (t.2.2.2.1.getD (Int.toNat i) tIns.dflt).2.2.1, .int .i64 (t.2.2.2.1.getD (Int.toNat i) tIns.dflt).2.2.2.1, .int .i64 (t.2.2.2.1.getD (Int.toNat i) tIns.dflt).2.2.2.2.1, .int .i64 (t.2.2.2.1.getD (Int.toNat i) tIns.dflt).2.2.2.2.2.1, .int .i64 (t.2.2.2.1.getD (Int.toNat i) tIns.dflt).2.2.2.2.2.2.1, .int .i64 (t.2.2.2.1.getD (Int.toNat i) tIns.dflt).2.2.2.2.2.2.2], .cells 46 [.int .i64 (t.2.2.2.1.getD (Int.toNat (t.2.2.2.1.getD (Int.toNat i) tIns.dflt).2.1) tIns.dflt).1, .int .i64 (t.2.2.2.1.getD (Int.toNat (t.2.2.2.1.getD (Int.toNat i) tIns.dflt).2.1) tIns.dflt).2.1, .int .i64 (t.2.2.2.1.getD (Int.toNat (t.2.2.2.1.getD (Int.toNat i) tIns.dflt).2.1) tIns.dflt).2.2.1, .int .i64 (t.2.2.2.1.getD (Int.toNat (t.2.2.2.1.getD (Int.toNat i) tIns.dflt).2.1) tIns.dflt).2.2.2.1, .int .i64 (t.2.2.2.1.getD (Int.toNat (t.2.2.2.1.getD (Int.toNat i) tIns.dflt).2.1) tIns.dflt).2.2.2.2.1, .int .i64 (t.2.2.2.1.getD (Int.toNat (t.2.2.2.1.getD (Int.toNat i) tIns.dflt).2.1) tIns.dflt).2.2.2.2.2.1, .int .i64 (t.2.2.2.1.getD (Int.toNat (t.2.2.2.1.getD (Int.toNat i) tIns.dflt).2.1) tIns.dflt).2.2.2.2.2.2.1, .int .i64 (t.2.2.2.1.getD (Int.toNat (t.2.2.2.1.getD (Int.toNat i) tIns.dflt).2.1) tIns.dflt).2.2.2.2.2.2.2]])
        (.stop (rg (bodyOf Tryd.f62) 13) (.c (.ptr 0 0 0 0) :: .c (.int .i64 v) :: .c (.int .i64 a) :: J2 (.junk :: .c (.ptr 2 0 0 0) :: .c (.ptr 3 0 0 0) :: J2 (.c (.ptr 4 0 0 0) :: .c (.int .i64 i) :: .c (.ptr 5 0 0 0) :: .c (.ptr 6 0 0 0) :: J32 (J32 (J32 (J8 (J4 (J2 (.junk :: []))))))))) [.cells 128 (Ty.enc tTrace t ++ [.map 1]), .map 164 tVal tVal n1 m1, .cells 130 [.int .i64 0, .int .i64 0], .vec 164 tI ([v, a]), .cells 130 [.int .i64 s0, .int .i64 s1], .cells 46 [.int .i64 (t.2.2.2.1.getD (Int.toNat i) tIns.dflt).1, .int .i64 (t.2.2.2.1.getD (Int.toNat i) tIns.dflt).2.1, .int .i64 (t.2.2.2.1.getD (Int.toNat i) tIns.dflt).2.2.1, .int .i64 (t.2.2.2.1.getD (Int.toNat i) tIns.dflt).2.2.2.1, .int .i64 (t.2.2.2.1.getD (Int.toNat i) tIns.dflt).2.2.2.2.1, .int .i64 (t.2.2.2.1.getD (Int.toNat i) tIns.dflt).2.2.2.2.2.1, .int .i64 (t.2.2.2.1.getD (Int.toNat i) tIns.dflt).2.2.2.2.2.2.1, .int .i64 (t.2.2.2.1.getD (Int.toNat i) tIns.dflt).2.2.2.2.2.2.2], .cells 46 [.int .i64 (t.2.2.2.1.getD (Int.toNat (t.2.2.2.1.getD (Int.toNat i) tIns.dflt).2.1) tIns.dflt).1, .int .i64 (t.2.2.2.1.getD (Int.toNat (t.2.2.2.1.getD (Int.toNat i) tIns.dflt).2.1) tIns.dflt).2.1, .int .i64 (t.2.2.2.1.getD (Int.toNat (t.2.2.2.1.getD (Int.toNat i) tIns.dflt).2.1) tIns.dflt).2.2.1, .int .i64 (t.2.2.2.1.getD (Int.toNat (t.2.2.2.1.getD (Int.toNat i) tIns.dflt).2.1) tIns.dflt).2.2.2.1, .int .i64 (t.2.2.2.1.getD (Int.toNat (t.2.2.2.1.getD (Int.toNat i) tIns.dflt).2.1) tIns.dflt).2.2.2.2.1, .int .i64 (t.2.2.2.1.getD (Int.toNat (t.2.2.2.1.getD (Int.toNat i) tIns.dflt).2.1) tIns.dflt).2.2.2.2.2.1, .int .i64 (t.2.2.2.1.getD (Int.toNat (t.2.2.2.1.getD (Int.toNat i) tIns.dflt).2.1) tIns.dflt).2.2.2.2.2.2.1, .int .i64 (t.2.2.2.1.getD (Int.toNat (t.2.2.2.1.getD (Int.toNat i) tIns.dflt).2.1) tIns.dflt).2.2.2.2.2.2.2]]))))
     (.ite ((!(decide ((t.2.2.2.1.getD (Int.toNat (t.2.2.2.1.getD (Int.toNat i) tIns.dflt).2.1) tIns.dflt).2.1 = v))))
      (.ite ((!(decide ((t.2.2.2.1.getD (Int.toNat (t.2.2.2.1.getD (Int.toNat i) tIns.dflt).2.1) tIns.dflt).2.2.1 = v))))
       (.need (inR .i64 (i + 1)) <|
        .stop (lp (bodyOf Tryd.f62) 0) (.c (.ptr 0 0 0 0) :: .c (.int .i64 v) :: .c (.int .i64 a) :: J2 (.junk :: .c (.ptr 2 0 0 0) :: .c (.ptr 3 0 0 0) :: J2 (.c (.ptr 4 0 0 0) :: .c (.int .i64 (i + 1)) :: .c (.ptr 5 0 0 0) :: .c (.ptr 6 0 0 0) :: J32 (J32 (J32 (J8 (J4 (J2 (.junk :: []))))))))) [.cells 128 (Ty.enc tTrace t ++ [.map 1]), .map 164 tVal tVal n1 m1, .cells 130 [.int .i64 0, .int .i64 0], .vec 164 tI ([v, a]), .cells 130 [.int .i64 s0, .int .i64 s1], .cells 46 [.int .i64 (t.2.2.2.1.getD (Int.toNat i) tIns.dflt).1, .int .i64 (t.2.2.2.1.getD (Int.toNat i) tIns.dflt).2.1, .int .i64 (t.2.2.2.1.getD (Int.toNat i) tIns.dflt).2.2.1, .int .i64 (t.2.2.2.1.getD (Int.toNat i) tIns.dflt).2.2.2.1, .int .i64 (t.2.2.2.1.getD (Int.toNat i) tIns.dflt).2.2.2.2.1, .int .i64 (t.2.2.2.1.getD (Int.toNat i) tIns.dflt).2.2.2.2.2.1, .int .i64 (t.2.2.2.1.getD (Int.toNat i) tIns.dflt).2.2.2.2.2.2.1, .int .i64 (t.2.2.2.1.getD (Int.toNat i) tIns.dflt).2.2.2.2.2.2.2], .cells 46 [.int .i64 (t.2.2.2.1.getD (Int.toNat (t.2.2.2.1.getD (Int.toNat i) tIns.dflt).2.1) tIns.dflt).1, .int .i64 (t.2.2.2.1.getD (Int.toNat (t.2.2.2.1.getD (Int.toNat i) tIns.dflt).2.1) tIns.dflt).2.1, .int .i64 (t.2.2.2.1.getD (Int.toNat (t.2.2.2.1.getD (Int.toNat i) tIns.dflt).2.1) tIns.dflt).2.2.1, .int .i64 (t.2.2.2.1.getD (Int.toNat (t.2.2.2.1.getD (Int.toNat i) tIns.dflt).2.1) tIns.dflt).2.2.2.1, .int .i64 (t.2.2.2.1.getD (Int.toNat (t.2.2.2.1.getD (Int.toNat i) tIns.dflt).2.1) tIns.dflt).2.2.2.2.1, .int .i64 (t.2.2.2.1.getD (Int.toNat (t.2.2.2.1.getD (Int.toNat i) tIns.dflt).2.1) tIns.dflt).2.2.2.2.2.1, .int .i64 (t.2.2.2.1.getD (Int.toNat (t.2.2.2.1.getD (Int.toNat i) tIns.dflt).2.1) tIns.dflt).2.2.2.2.2.2.1, .int .i64 (t.2.2.2.1.getD (Int.toNat (t.2.2.2.1.getD (Int.toNat i) tIns.dflt).2.1) tIns.dflt).2.2.2.2.2.2.2]])
       (.callH 96 [.c (.ptr 0 0 0 0), .c (.int .i64 (t.2.2.2.1.getD (Int.toNat i) tIns.dflt).2.1)] [.cells 128 (Ty.enc tTrace t ++ [.map 1]), .map 164 tVal tVal n1 m1, .cells 130 [.int .i64 0, .int .i64 0], .vec 164 tI ([v, a]), .cells 130 [.int .i64 s0, .int .i64 s1], .cells 46 [.int .i64 (t.2.2.2.1.getD (Int.toNat i) tIns.dflt).1, .int .i64 (t.2.2.2.1.getD (Int.toNat i) tIns.dflt).2.1, .int .i64 (t.2.2.2.1.getD (Int.toNat i) tIns.dflt).2.2.1, .int .i64 (t.2.2.2.1.getD (Int.toNat i) tIns.dflt).2.2.2.1, .int .i64 (t.2.2.2.1.getD (Int.toNat i) tIns.dflt).2.2.2.2.1, .int .i64 (t.2.2.2.1.getD (Int.toNat i) tIns.dflt).2.2.2.2.2.1, .int .i64 (t.2.2.2.1.getD (Int.toNat i) tIns.dflt).2.2.2.2.2.2.1, .int .i64 (t.2.2.2.1.getD (Int.toNat i) tIns.dflt).2.2.2.2.2.2.2], .cells 46 [.int .i64 (t.2.2.2.1.getD (Int.toNat (t.2.2.2.1.getD (Int.toNat i) tIns.dflt).2.1) tIns.dflt).1, .int .i64 (t.2.2.2.1.getD (Int.toNat (t.2.2.2.1.getD (Int.toNat i) tIns.dflt).2.1) tIns.dflt).2.1, .int .i64 (t.2.2.2.1.getD (Int.toNat (t.2.2.2.1.getD (Int.toNat i) tIns.dflt).2.1) tIns.dflt).2.2.1, .int .i64 (t.2.2.2.1.getD (Int.toNat (t.2.2.2.1.getD (Int.toNat i) tIns.dflt).2.1) tIns.dflt).2.2.2.1, .int .i64 (t.2.2.2.1.getD (Int.toNat (t.2.2.2.1.getD (Int.toNat i) tIns.dflt).2.1) tIns.dflt).2.2.2.2.1, .int .i64 (t.2.2.2.1.getD (Int.toNat (t.2.2.2.1.getD (Int.toNat i) tIns.dflt).2.1) tIns.dflt).2.2.2.2.2.1, .int .i64 (t.2.2.2.1.getD (Int.toNat (t.2.2.2.1.getD (Int.toNat i) tIns.dflt).2.1) tIns.dflt).2.2.2.2.2.2.1, .int .i64 (t.2.2.2.1.getD (Int.toNat (t.2.2.2.1.getD (Int.toNat i) tIns.dflt).2.1) tIns.dflt).2.2.2.2.2.2.2]] (.c (.bool (intsF t (t.2.2.2.1.getD (Int.toNat i) tIns.dflt).2.1))) [.cells 128 (Ty.enc tTrace t ++ [.map 1]), .map 164 tVal tVal n1 m1, .cells 130 [.int .i64 0, .int .i64 0], .vec 164 tI ([v, a]), .cells 130 [.int .i64 s0, .int .i64 s1], .cells 46 [.int .i64 (t.2.2.2.1.getD (Int.toNat i) tIns.dflt).1, .int .i64 (t.2.2.2.1.getD (Int.toNat i) tIns.dflt).2.1, .int .i64 (t.2.2.2.1.getD (Int.toNat i) tIns.dflt).2.2.1, .int .i64 (t.2.2.2.1.getD (Int.toNat i) tIns.dflt).2.2.2.1, .int .i64 (t.2.2.2.1.getD (Int.toNat i) tIns.dflt).2.2.2.2.1, .int .i64 (t.2.2.2.1.getD (Int.toNat i) tIns.dflt).2.2.2.2.2.1, .int .i64 (t.2.2.2.1.getD (Int.toNat i) tIns.dflt).2.2.2.2.2.2.1, .int .i64 (t.2.2.2.1.getD (Int.toNat i) tIns.dflt).2.2.2.2.2.2.2], .cells 46 [.int .i64 (t.2.2.2.1.getD (Int.toNat (t.2.2.2.1.getD (Int.toNat i) tIns.dflt).2.1) tIns.dflt).1, .int .i64 (t.2.2.2.1.getD (Int.toNat (t.2.2.2.1.getD (Int.toNat i) tIns.dflt).2.1) tIns.dflt).2.1, .int .i64 (t.2.2.2.1.getD (Int.toNat (t.2.2.2.1.getD (Int.toNat i) tIns.dflt).2.1) tIns.dflt).2.2.1, .int .i64 (t.2.2.2.1.getD (Int.toNat (t.2.2.2.1.getD (Int.toNat i) tIns.dflt).2.1) tIns.dflt).2.2.2.1, .int .i64 (t.2.2.2.1.getD (Int.toNat (t.2.2.2.1.getD (Int.toNat i) tIns.dflt).2.1) tIns.dflt).2.2.2.2.1, .int .i64 (t.2.2.2.1.getD (Int.toNat (t.2.2.2.1.getD (Int.toNat i) tIns.dflt).2.1) tIns.dflt).2.2.2.2.2.1, .int .i64 (t.2.2.2.1.getD (Int.toNat (t.2.2.2.1.getD (Int.toNat i) tIns.dflt).2.1) tIns.dflt).2.2.2.2.2.2.1, .int .i64 (t.2.2.2.1.getD (Int.toNat (t.2.2.2.1.getD (Int.toNat i) tIns.dflt).2.1) tIns.dflt).2.2.2.2.2.2.2]] [0, 1] <|
        .ite ((!(intsF t (t.2.2.2.1.getD (Int.toNat i) tIns.dflt).2.1)))
        (.need (inR .i64 (i + 1)) <|
         .stop (lp (bodyOf Tryd.f62) 0) (.c (.ptr 0 0 0 0) :: .c (.int .i64 v) :: .c (.int .i64 a) :: J2 (.junk :: .c (.ptr 2 0 0 0) :: .c (.ptr 3 0 0 0) :: J2 (.c (.ptr 4 0 0 0) :: .c (.int .i64 (i + 1)) :: .c (.ptr 5 0 0 0) :: .c (.ptr 6 0 0 0) :: J32 (J32 (J32 (J8 (J4 (J2 (.junk :: []))))))))) [.cells 128 (Ty.enc tTrace t ++ [.map 1]), .map 164 tVal tVal n1 m1, .cells 130 [.int .i64 0, .int .i64 0], .vec 164 tI ([v, a]), .cells 130 [.int .i64 s0, .int .i64 s1], .cells 46 [.int .i64 (t.2.2.2.1.getD (Int.toNat i) tIns.dflt).1, .int .i64 (t.2.2.2.1.getD (Int.toNat i) tIns.dflt).2.1, .int .i64 (t.2.2.2.1.getD (Int.toNat i) tIns.dflt).2.2.1, .int .i64 (t.2.2.2.1.getD (Int.toNat i) tIns.dflt).2.2.2.1, .int .i64 (t.2.2.2.1.getD (Int.toNat i) tIns.dflt).2.2.2.2.1, .int .i64 (t.2.2.2.1.getD (Int.toNat i) tIns.dflt).2.2.2.2.2.1, .int .i64 (t.2.2.2.1.getD (Int.toNat i) tIns.dflt).2.2.2.2.2.2.1, .int .i64 (t.2.2.2.1.getD (Int.toNat i) tIns.dflt).2.2.2.2.2.2.2], .cells 46 [.int .i64 (t.2.2.2.1.getD (Int.toNat (t.2.2.2.1.getD (Int.toNat i) tIns.dflt).2.1) tIns.dflt).1, .int .i64 (t.2.2.2.1.getD (Int.toNat (t.2.2.2.1.getD (Int.toNat i) tIns.dflt).2.1) tIns.dflt).2.1, .int .i64 (t.2.2.2.1.getD (Int.toNat (t.2.2.2.1.getD (Int.toNat i) tIns.dflt).2.1) tIns.dflt).2.2.1, .int .i64 (t.2.2.2.1.getD (Int.toNat (t.2.2.2.1.getD (Int.toNat i) tIns.dflt).2.1) tIns.dflt).2.2.2.1, .int .i64 (t.2.2.2.1.getD (Int.toNat (t.2.2.2.1.getD (Int.toNat i) tIns.dflt).2.1) tIns.dflt).2.2.2.2.1, .int .i64 (t.2.2.2.1.getD (Int.toNat (t.2.2.2.1.getD (Int.toNat i) tIns.dflt).2.1) tIns.dflt).2.2.2.2.2.1, .int .i64 (t.2.2.2.1.getD (Int.toNat (t.2.2.2.1.getD (Int.toNat i) tIns.dflt).2.1) tIns.dflt).2.2.2.2.2.2.1, .int .i64 (t.2.2.2.1.getD (Int.toNat (t.2.2.2.1.getD (Int.toNat i) tIns.dflt).2.1) tIns.dflt).2.2.2.2.2.2.2]])
        (.stop (rg (bodyOf Tryd.f62) 13) (.c (.ptr 0 0 0 0) :: .c (.int .i64 v) :: .c (.int .i64 a) :: J2 (.junk :: .c (.ptr 2 0 0 0) :: .c (.ptr 3 0 0 0) :: J2 (.c (.ptr 4 0 0 0) :: .c (.int .i64 i) :: .c (.ptr 5 0 0 0) :: .c (.ptr 6 0 0 0) :: J32 (J32 (J32 (J8 (J4 (J2 (.junk :: []))))))))) [.cells 128 (Ty.enc tTrace t ++ [.map 1]), .map 164 tVal tVal n1 m1, .cells 130 [.int .i64 0, .int .i64 0], .vec 164 tI ([v, a]), .cells 130 [.int .i64 s0, .int .i64 s1], .cells 46 [.int .i64 (t.2.2.2.1.getD (Int.toNat i) tIns.dflt).1, .int .i64 (t.2.2.2.1.getD (Int.toNat i) tIns.dflt).2.1, .int .i64 (t.2.2.2.1.getD (Int.toNat i) tIns.dflt).2.2.1, .int .i64 (t.2.2.2.1.getD (Int.toNat i) tIns.dflt).2.2.2.1, .int .i64 (t.2.2.2.1.getD (Int.toNat i) tIns.dflt).2.2.2.2.1, .int .i64 (t.2.2.2.1.getD (Int.toNat i) tIns.dflt).2.2.2.2.2.1, .int .i64 (t.2.2.2.1.getD (Int.toNat i) tIns.dflt).2.2.2.2.2.2.1, .int .i64 (t.2.2.2.1.getD (Int.toNat i) tIns.dflt).2.2.2.2.2.2.2], .cells 46 [.int .i64 (t.2.2.2.1.getD (Int.toNat (t.2.2.2.1.getD (Int.toNat i) tIns.dflt).2.1) tIns.dflt).1, .int .i64 (t.2.2.2.1.getD (Int.toNat (t.2.2.2.1.getD (Int.toNat i) tIns.dflt).2.1) tIns.dflt).2.1, .int .i64 (t.2.2.2.1.getD (Int.toNat (t.2.2.2.1.getD (Int.toNat i) tIns.dflt).2.1) tIns.dflt).2.2.1, .int .i64 (t.2.2.2.1.getD (Int.toNat (t.2.2.2.1.getD (Int.toNat i) tIns.dflt).2.1) tIns.dflt).2.2.2.1, .int .i64 (t.2.2.2.1.getD (Int.toNat (t.2.2.2.1.getD (Int.toNat i) tIns.dflt).2.1) tIns.dflt).2.2.2.2.1, .int .i64 (t.2.2.2.1.getD (Int.toNat (t.2.2.2.1.getD (Int.toNat i) tIns.dflt).2.1) tIns.dflt).2.2.2.2.2.1, .int .i64 (t.2.2.2.1.getD (Int.toNat (t.2.2.2.1.getD (Int.toNat i) tIns.dflt).2.1) tIns.dflt).2.2.2.2.2.2.1, .int .i64 (t.2.2.2.1.getD (Int.toNat (t.2.2.2.1.getD (Int.toNat i) tIns.dflt).2.1) tIns.dflt).2.2.2.2.2.2.2]])))
      (.callH 96 [.c (.ptr 0 0 0 0), .c (.int .i64 (t.2.2.2.1.getD (Int.toNat i) tIns.dflt).2.1)] [.cells 128 (Ty.enc tTrace t ++ [.map 1]), .map 164 tVal tVal n1 m1, .cells 130 [.int .i64 0, .int .i64 0], .vec 164 tI ([v, a]), .cells 130 [.int .i64 s0, .int .i64 s1], .cells 46 [.int .i64 (t.2.2.2.1.getD (Int.toNat i) tIns.dflt).1, .int .i64 (t.2.2.2.1.getD (Int.toNat i) tIns.dflt).2.1, .int .i64 (t.2.2.2.1.getD (Int.toNat i) tIns.dflt).2.2.1, .int .i64 (t.2.2.2.1.getD (Int.toNat i) tIns.dflt).2.2.2.1, .int .i64 (t.2.2.2.1.getD (Int.toNat i) tIns.dflt).2.2.2.2.1, .int .i64 (t.2.2.2.1.getD (Int.toNat i) tIns.dflt).2.2.2.2.2.1, .int .i64 (t.2.2.2.1.getD (Int.toNat i) tIns.dflt).2.2.2.2.2.2.1, .int .i64 (t.2.2.2.1.getD (Int.toNat i) tIns.dflt).2.2.2.2.2.2.2], .cells 46 [.int .i64 (t.2.2.2.1.getD (Int.toNat (t.2.2.2.1.getD (Int.toNat i) tIns.dflt).2.1) tIns.dflt).1, .int .i64 (t.2.2.2.1.getD (Int.toNat (t.2.2.2.1.getD (Int.toNat i) tIns.dflt).2.1) tIns.dflt).2.1, .int .i64 (t.2.2.2.1.getD (Int.toNat (t.2.2.2.1.getD (Int.toNat i) tIns.dflt).2.1) tIns.dflt).2.2.1, .int .i64 (t.2.2.2.1.getD (Int.toNat (t.2.2.2.1.getD (Int.toNat i) tIns.dflt).2.1) tIns.dflt).2.2.2.1, .int .i64 (t.2.2.2.1.getD (Int.toNat (t.2.2.2.1.getD (Int.toNat i) tIns.dflt).2.1) tIns.dflt).2.2.2.2.1, .int .i64 (t.2.2.2.1.getD (Int.toNat (t.2.2.2.1.getD (Int.toNat i) tIns.dflt).2.1) tIns.dflt).2.2.2.2.2.1, .int .i64 (t.2.2.2.1.getD (Int.toNat (t.2.2.2.1.getD (Int.toNat i) tIns.dflt).2.1) tIns.dflt).2.2.2.2.2.2.1, .int .i64 (t.2.2.2.1.getD (Int.toNat (t.2.2.2.1.getD (Int.toNat i) tIns.dflt).2.1) tIns.dflt).2.2.2.2.2.2.2]] (.c (.bool (intsF t (t.2.2.2.1.getD (Int.toNat i) tIns.dflt).2.1))) [.cells 128 (Ty.enc tTrace t ++ [.map 1]), .map 164 tVal tVal n1 m1, .cells 130 [.int .i64 0, .int .i64 0], .vec 164 tI ([v, a]), .cells 130 [.int .i64 s0, .int .i64 s1], .cells 46 [.int .i64 (t.2.2.2.1.getD (Int.toNat i) tIns.dflt).1, .int .i64 (t.2.2.2.1.getD (Int.toNat i) tIns.dflt).2.1, .int .i64 (t.2.2.2.1.getD (Int.toNat i) tIns.dflt).2.2.1, .int .i64 (t.2.2.2.1.getD (Int.toNat i) tIns.dflt).2.2.2.1, .int .i64 (t.2.2.2.1.getD (Int.toNat i) tIns.dflt).2.2.2.2.1, .int .i64 (t.2.2.2.1.getD (Int.toNat i) tIns.dflt).2.2.2.2.2.1, .int .i64 (t.2.2.2.1.getD (Int.toNat i) tIns.dflt).2.2.2.2.2.2.1, .int .i64 (t.2.2.2.1.getD (Int.toNat i) tIns.dflt).2.2.2.2.2.2.2], .cells 46 [.int .i64 (t.2.2.2.1.getD (Int.toNat (t.2.2.2.1.getD (Int.toNat i) tIns.dflt).2.1) tIns.dflt).1, .int .i64 (t.2.2.2.1.getD (Int.toNat (t.2.2.2.1.getD (Int.toNat i) tIns.dflt).2.1) tIns.dflt).2.1, .int .i64 (t.2.2.2.1.getD (Int.toNat (t.2.2.2.1.getD (Int.toNat i) tIns.dflt).2.1) tIns.dflt).2.2.1, .int .i64 (t.2.2.2.1.getD (Int.toNat (t.2.2.2.1.getD (Int.toNat i) tIns.dflt).2.1) tIns.dflt).2.2.2.1, .int .i64 (t.2.2.2.1.getD (Int.toNat (t.2.2.2.1.getD (Int.toNat i) tIns.dflt).2.1) tIns.dflt).2.2.2.2.1, .int .i64 (t.2.2.2.1.getD (Int.toNat (t.2.2.2.1.getD (Int.toNat i) tIns.dflt).2.1) tIns.dflt).2.2.2.2.2.1, .int .i64 (t.2.2.2.1.getD (Int.toNat (t.2.2.2.1.getD (Int.toNat i) tIns.dflt).2.1) tIns.dflt).2.2.2.2.2.2.1, .int .i64 (t.2.2.2.1.getD (Int.toNat (t.2.2.2.1.getD (Int.toNat i) tIns.dflt).2.1) tIns.dflt).2.2.2.2.2.2.2]] [0, 1] <|
       .ite ((!(intsF t (t.2.2.2.1.getD (Int.toNat i) tIns.dflt).2.1)))
       (.need (inR .i64 (i + 1)) <|
        .stop (lp (bodyOf Tryd.f62) 0) (.c (.ptr 0 0 0 0) :: .c (.int .i64 v) :: .c (.int .i64 a) :: J2 (.junk :: .c (.ptr 2 0 0 0) :: .c (.ptr 3 0 0 0) :: J2 (.c (.ptr 4 0 0 0) :: .c (.int .i64 (i + 1)) :: .c (.ptr 5 0 0 0) :: .c (.ptr 6 0 0 0) :: J32 (J32 (J32 (J8 (J4 (J2 (.junk :: []))))))))) [.cells 128 (Ty.enc tTrace t ++ [.map 1]), .map 164 tVal tVal n1 m1, .cells 130 [.int .i64 0, .int .i64 0], .vec 164 tI ([v, a]), .cells 130 [.int .i64 s0, .int .i64 s1], .cells 46 [.int .i64 (t.2.2.2.1.getD (Int.toNat i) tIns.dflt).1, .int .i64 (t.2.2.2.1.getD (Int.toNat i) tIns.dflt).2.1, .int .i64 (t.2.2.2.1.getD (Int.toNat i) tIns.dflt).2.2.1, .int .i64 (t.2.2.2.1.getD (Int.toNat i) tIns.dflt).2.2.2.1, .int .i64 (t.2.2.2.1.getD (Int.toNat i) tIns.dflt).2.2.2.2.1, .int .i64 (t.2.2.2.1.getD (Int.toNat i) tIns.dflt).2.2.2.2.2.1, .int .i64 (t.2.2.2.1.getD (Int.toNat i) tIns.dflt).2.2.2.2.2.2.1, .int .i64 (t.2.2.2.1.getD (Int.toNat i) tIns.dflt).2.2.2.2.2.2.2], .cells 46 [.int .i64 (t.2.2.2.1.getD (Int.toNat (t.2.2.2.1.getD (Int.toNat i) tIns.dflt).2.1) tIns.dflt).1, .int .i64 (t.2.2.2.1.getD (Int.toNat (t.2.2.2.1.getD (Int.toNat i) tIns.dflt).2.1) tIns.dflt).2.1, .int .i64 (t.2.2.2.1.getD (Int.toNat (t.2.2.2.1.getD (Int.toNat i) tIns.dflt).2.1) tIns.dflt).2.2.1, .int .i64 (t.2.2.2.1.getD (Int.toNat (t.2.2.2.1.getD (Int.toNat i) tIns.dflt).2.1) tIns.dflt).2.2.2.1, .int .i64 (t.2.2.2.1.getD (Int.toNat (t.2.2.2.1.getD (Int.toNat i) tIns.dflt).2.1) tIns.dflt).2.2.2.2.1, .int .i64 (t.2.2.2.1.getD (Int.toNat (t.2.2.2.1.getD (Int.toNat i) tIns.dflt).2.1) tIns.dflt).2.2.2.2.2.1, .int .i64 (t.2.2.2.1.getD (Int.toNat (t.2.2.2.1.getD (Int.toNat i) tIns.dflt).2.1) tIns.dflt).2.2.2.2.2.2.1, .int .i64 (t.2.2.2.1.getD (Int.toNat (t.2.2.2.1.getD (Int.toNat i) tIns.dflt).2.1) tIns.dflt).2.2.2.2.2.2.2]])
       (.stop (rg (bodyOf Tryd.f62) 13) (.c (.ptr 0 0 0 0) :: .c (.int .i64 v) :: .c (.int .i64 a) :: J2 (.junk :: .c (.ptr 2 0 0 0) :: .c (.ptr 3 0 0 0) :: J2 (.c (.ptr 4 0 0 0) :: .c (.int .i64 i) :: .c (.ptr 5 0 0 0) :: .c (.ptr 6 0 0 0) :: J32 (J32 (J32 (J8 (J4 (J2 (.junk :: []))))))))) [.cells 128 (Ty.enc tTrace t ++ [.map 1]), .map 164 tVal tVal n1 m1, .cells 130 [.int .i64 0, .int .i64 0], .vec 164 tI ([v, a]), .cells 130 [.int .i64 s0, .int .i64 s1], .cells 46 [.int .i64 (t.2.2.2.1.getD (Int.toNat i) tIns.dflt).1, .int .i64 (t.2.2.2.1.getD (Int.toNat i) tIns.dflt).2.1, .int .i64 (t.2.2.2.1.getD (Int.toNat i) tIns.dflt).2.2.1, .int .i64 (t.2.2.2.1.getD (Int.toNat i) tIns.dflt).2.2.2.1, .int .i64 (t.2.2.2.1.getD (Int.toNat i) tIns.dflt).2.2.2.2.1, .int .i64 (t.2.2.2.1.getD (Int.toNat i) tIns.dflt).2.2.2.2.2.1, .int .i64 (t.2.2.2.1.getD (Int.toNat i) tIns.dflt).2.2.2.2.2.2.1, .int .i64 (t.2.2.2.1.getD (Int.toNat i) tIns.dflt).2.2.2.2.2.2.2], .cells 46 [.int .i64 (t.2.2.2.1.getD (Int.toNat (t.2.2.2.1.getD (Int.toNat i) tIns.dflt).2.1) tIns.dflt).1, .int .i64 (t.2.2.2.1.getD (Int.toNat (t.2.2.2.1.getD (Int.toNat i) tIns.dflt).2.1) tIns.dflt).2.1, .int .i64 (t.2.2.2.1.getD (Int.toNat (t.2.2.2.1.getD (Int.toNat i) tIns.dflt).2.1) tIns.dflt).2.2.1, .int .i64 (t.2.2.2.1.getD (Int.toNat (t.2.2.2.1.getD (Int.toNat i) tIns.dflt).2.1) tIns.dflt).2.2.2.1, .int .i64 (t.2.2.2.1.getD (Int.toNat (t.2.2.2.1.getD (Int.toNat i) tIns.dflt).2.1) tIns.dflt).2.2.2.2.1, .int .i64 (t.2.2.2.1.getD (Int.toNat (t.2.2.2.1.getD (Int.toNat i) tIns.dflt).2.1) tIns.dflt).2.2.2.2.2.1, .int .i64 (t.2.2.2.1.getD (Int.toNat (t.2.2.2.1.getD (Int.toNat i) tIns.dflt).2.1) tIns.dflt).2.2.2.2.2.2.1, .int .i64 (t.2.2.2.1.getD (Int.toNat (t.2.2.2.1.getD (Int.toNat i) tIns.dflt).2.1) tIns.dflt).2.2.2.2.2.2.2]]))))))
  (.need (2 ≤ ([v, a]).length) <|
   .need (Tryd.prog = Tryd.prog ∧ MapLaw Tryd.prog 164 tVal ∧ n1 < 140737488355328) <|
   .ret (.agg [.int .i64 s0, .int .i64 s1]) [.cells 128 (Ty.enc tTrace t ++ [.map 1]), .map 164 tVal tVal (n1 + 1) (updM (kt := tVal) m1 ((([v, a]).getD 0 tI.dflt), (([v, a]).getD 1 tI.dflt)) (s0, s1)), .cells 130 [.int .i64 s0, .int .i64 s1], .vec 164 tI ([v, a]), .cells 130 [.int .i64 s0, .int .i64 s1]])
theorem span_l0_R_ok (t : ETrace) (n : Nat) (m : EVal → Option EVal) (v : Int) (a : Int) (k : Nat) (i : Int) (n1 : Nat) (m1 : EVal → Option EVal) (s0 : Int) (s1 : Int) : aRound Tryd.prog (oc107 k) Tryd.f62 span_lv 3000 (lp (bodyOf Tryd.f62) 0) (.c (.ptr 0 0 0 0) :: .c (.int .i64 v) :: .c (.int .i64 a) :: J2 (.junk :: .c (.ptr 2 0 0 0) :: .c (.ptr 3 0 0 0) :: J2 (.c (.ptr 4 0 0 0) :: .c (.int .i64 i) :: J32 (J32 (J32 (J16 (.junk :: []))))))) [.cells 128 (Ty.enc tTrace t ++ [.map 1]), .map 164 tVal tVal n1 m1, .cells 130 [.int .i64 0, .int .i64 0], .vec 164 tI ([v, a]), .cells 130 [.int .i64 s0, .int .i64 s1]] = span_l0_R t n m v a k i n1 m1 s0 s1 := by kernel_rfl
noncomputable def span_r13_R (t : ETrace) (n : Nat) (m : EVal → Option EVal) (v : Int) (a : Int) (k : Nat) (i : Int) (n1 : Nat) (m1 : EVal → Option EVal) (s0 : Int) (s1 : Int) : Tree :=
  .ite (decide ((t.2.2.2.1.getD (Int.toNat (t.2.2.2.1.getD (Int.toNat i) tIns.dflt).2.1) tIns.dflt).2.2.2.2.1 = 9))
  (.ite (decide ((t.2.2.2.1.getD (Int.toNat i) tIns.dflt).2.2.2.2.1 = 1))
   (.callH 97 [.c (.ptr 0 0 0 0), .agg [.int .i64 s0, .int .i64 s1], .c (.int .i64 v), .c (.int .i64 (t.2.2.2.1.getD (Int.toNat (t.2.2.2.1.getD (Int.toNat i) tIns.dflt).2.1) tIns.dflt).2.1), .c (.int .i64 (t.2.2.2.1.getD (Int.toNat (t.2.2.2.1.getD (Int.toNat i) tIns.dflt).2.1) tIns.dflt).2.2.1), .c (.int .i64 1), .c (.int .i64 i)] [.cells 128 (Ty.enc tTrace t ++ [.map 1]), .map 164 tVal tVal n1 m1, .cells 130 [.int .i64 0, .int .i64 0], .vec 164 tI ([v, a]), .cells 130 [.int .i64 s0, .int .i64 s1], .cells 46 [.int .i64 (t.2.2.2.1.getD (Int.toNat i) tIns.dflt).1, .int .i64 (t.2.2.2.1.getD (Int.toNat i) tIns.dflt).2.1, .int .i64 (t.2.2.2.1.getD (Int.toNat i) tIns.dflt).2.2.1, .int .i64 (t.2.2.2.1.getD (Int.toNat i) tIns.dflt).2.2.2.1, .int .i64 (t.2.2.2.1.getD (Int.toNat i) tIns.dflt).2.2.2.2.1, .int .i64 (t.2.2.2.1.getD (Int.toNat i) tIns.dflt).2.2.2.2.2.1, .int .i64 (t.2.2.2.1.getD (Int.toNat i) tIns.dflt).2.2.2.2.2.2.1, .int .i64 (t.2.2.2.1.getD (Int.toNat i) tIns.dflt).2.2.2.2.2.2.2], .cells 46 [.int .i64 (t.2.2.2.1.getD (Int.toNat (t.2.2.2.1.getD (Int.toNat i) tIns.dflt).2.1) tIns.dflt).1, .int .i64 (t.2.2.2.1.getD (Int.toNat (t.2.2.2.1.getD (Int.toNat i) tIns.dflt).2.1) tIns.dflt).2.1, .int .i64 (t.2.2.2.1.getD (Int.toNat (t.2.2.2.1.getD (Int.toNat i) tIns.dflt).2.1) tIns.dflt).2.2.1, .int .i64 (t.2.2.2.1.getD (Int.toNat (t.2.2.2.1.getD (Int.toNat i) tIns.dflt).2.1) tIns.dflt).2.2.2.1, .int .i64 (t.2.2.2.1.getD (Int.toNat (t.2.2.2.1.getD (Int.toNat i) tIns.dflt).2.1) tIns.dflt).2.2.2.2.1, .int .i64 (t.2.2.2.1.getD (Int.toNat (t.2.2.2.1.getD (Int.toNat i) tIns.dflt).2.1) tIns.dflt).2.2.2.2.2.1, .int .i64 (t.2.2.2.1.getD (Int.toNat (t.2.2.2.1.getD (Int.toNat i) tIns.dflt).2.1) tIns.dflt).2.2.2.2.2.2.1, .int .i64 (t.2.2.2.1.getD (Int.toNat (t.2.2.2.1.getD (Int.toNat i) tIns.dflt).2.1) tIns.dflt).2.2.2.2.2.2.2]] (.agg [.int .i64 (narM (spanM t k) (s0, s1) v (t.2.2.2.1.getD (Int.toNat (t.2.2.2.1.getD (Int.toNat i) tIns.dflt).2.1) tIns.dflt).2.1 (t.2.2.2.1.getD (Int.toNat (t.2.2.2.1.getD (Int.toNat i) tIns.dflt).2.1) tIns.dflt).2.2.1 1 i (n1, m1)).1.1, .int .i64 (narM (spanM t k) (s0, s1) v (t.2.2.2.1.getD (Int.toNat (t.2.2.2.1.getD (Int.toNat i) tIns.dflt).2.1) tIns.dflt).2.1 (t.2.2.2.1.getD (Int.toNat (t.2.2.2.1.getD (Int.toNat i) tIns.dflt).2.1) tIns.dflt).2.2.1 1 i (n1, m1)).1.2]) [.cells 128 (Ty.enc tTrace t ++ [.map 1]), .map 164 tVal tVal (narM (spanM t k) (s0, s1) v (t.2.2.2.1.getD (Int.toNat (t.2.2.2.1.getD (Int.toNat i) tIns.dflt).2.1) tIns.dflt).2.1 (t.2.2.2.1.getD (Int.toNat (t.2.2.2.1.getD (Int.toNat i) tIns.dflt).2.1) tIns.dflt).2.2.1 1 i (n1, m1)).2.1 (narM (spanM t k) (s0, s1) v (t.2.2.2.1.getD (Int.toNat (t.2.2.2.1.getD (Int.toNat i) tIns.dflt).2.1) tIns.dflt).2.1 (t.2.2.2.1.getD (Int.toNat (t.2.2.2.1.getD (Int.toNat i) tIns.dflt).2.1) tIns.dflt).2.2.1 1 i (n1, m1)).2.2, .cells 130 [.int .i64 0, .int .i64 0], .vec 164 tI ([v, a]), .cells 130 [.int .i64 s0, .int .i64 s1], .cells 46 [.int .i64 (t.2.2.2.1.getD (Int.toNat i) tIns.dflt).1, .int .i64 (t.2.2.2.1.getD (Int.toNat i) tIns.dflt).2.1, .int .i64 (t.2.2.2.1.getD (Int.toNat i) tIns.dflt).2.2.1, .int .i64 (t.2.2.2.1.getD (Int.toNat i) tIns.dflt).2.2.2.1, .int .i64 (t.2.2.2.1.getD (Int.toNat i) tIns.dflt).2.2.2.2.1, .int .i64 (t.2.2.2.1.getD (Int.toNat i) tIns.dflt).2.2.2.2.2.1, .int .i64 (t.2.2.2.1.getD (Int.toNat i) tIns.dflt).2.2.2.2.2.2.1, .int .i64 (t.2.2.2.1.getD (Int.toNat i) tIns.dflt).2.2.2.2.2.2.2], .cells 46 [.int .i64 (t.2.2.2.1.getD (Int.toNat (t.2.2.2.1.getD (Int.toNat i) tIns.dflt).2.1) tIns.dflt).1, .int .i64 (t.2.2.2.1.getD (Int.toNat (t.2.2.2.1.getD (Int.toNat i) tIns.dflt).2.1) tIns.dflt).2.1, .int .i64 (t.2.2.2.1.getD (Int.toNat (t.2.2.2.1.getD (Int.toNat i) tIns.dflt).2.1) tIns.dflt).2.2.1, .int .i64 (t.2.2.2.1.getD (Int.toNat (t.2.2.2.1.getD (Int.toNat i) tIns.dflt).2.1) tIns.dflt).2.2.2.1, .int .i64 (t.2.2.2.1.getD (Int.toNat (t.2.2.2.1.getD (Int.toNat i) tIns.dflt).2.1) tIns.dflt).2.2.2.2.1, .int .i64 (t.2.2.2.1.getD (Int.toNat (t.2.2.2.1.getD (Int.toNat i) tIns.dflt).2.1) tIns.dflt).2.2.2.2.2.1, .int .i64 (t.2.2.2.1.getD (Int.toNat (t.2.2.2.1.getD (Int.toNat i) tIns.dflt).2.1) tIns.dflt).2.2.2.2.2.2.1, .int .i64 (t.2.2.2.1.getD (Int.toNat (t.2.2.2.1.getD (Int.toNat i) tIns.dflt).2.1) tIns.dflt).2.2.2.2.2.2.2]] [0, 1] <|
    .need (inR .i64 (i + 1)) <|
    .stop (lp (bodyOf Tryd.f62) 0) (.c (.ptr 0 0 0 0) :: .c (.int .i64 v) :: .c (.int .i64 a) :: J2 (.junk :: .c (.ptr 2 0 0 0) :: .c (.ptr 3 0 0 0) :: J2 (.c (.ptr 4 0 0 0) :: .c (.int .i64 (i + 1)) :: .c (.ptr 5 0 0 0) :: .c (.ptr 6 0 0 0) :: J32 (J32 (J32 (J8 (J4 (J2 (.junk :: []))))))))) [.cells 128 (Ty.enc tTrace t ++ [.map 1]), .map 164 tVal tVal (narM (spanM t k) (s0, s1) v (t.2.2.2.1.getD (Int.toNat (t.2.2.2.1.getD (Int.toNat i) tIns.dflt).2.1) tIns.dflt).2.1 (t.2.2.2.1.getD (Int.toNat (t.2.2.2.1.getD (Int.toNat i) tIns.dflt).2.1) tIns.dflt).2.2.1 1 i (n1, m1)).2.1 (narM (spanM t k) (s0, s1) v (t.2.2.2.1.getD (Int.toNat (t.2.2.2.1.getD (Int.toNat i) tIns.dflt).2.1) tIns.dflt).2.1 (t.2.2.2.1.getD (Int.toNat (t.2.2.2.1.getD (Int.toNat i) tIns.dflt).2.1) tIns.dflt).2.2.1 1 i (n1, m1)).2.2, .cells 130 [.int .i64 0, .int .i64 0], .vec 164 tI ([v, a]), .cells 130 [.int .i64 (narM (spanM t k) (s0, s1) v (t.2.2.2.1.getD (Int.toNat (t.2.2.2.1.getD (Int.toNat i) tIns.dflt).2.1) tIns.dflt).2.1 (t.2.2.2.1.getD (Int.toNat (t.2.2.2.1.getD (Int.toNat i) tIns.dflt).2.1) tIns.dflt).2.2.1 1 i (n1, m1)).1.1, .int .i64 (narM (spanM t k) (s0, s1) v (t.2.2.2.1.getD (Int.toNat (t.2.2.2.1.getD (Int.toNat i) tIns.dflt).2.1) tIns.dflt).2.1 (t.2.2.2.1.getD (Int.toNat (t.2.2.2.1.getD (Int.toNat i) tIns.dflt).2.1) tIns.dflt).2.2.1 1 i (n1, m1)).1.2], .cells 46 [.int .i64 (t.2.2.2.1.getD (Int.toNat i) tIns.dflt).1, .int .i64 (t.2.2.2.1.getD (Int.toNat i) tIns.dflt).2.1, .int .i64 (t.2.2.2.1.getD (Int.toNat i) tIns.dflt).2.2.1, .int .i64 (t.2.2.2.1.getD (Int.toNat i) tIns.dflt).2.2.2.1, .int .i64 (t.2.2.2.1.getD (Int.toNat i) tIns.dflt).2.2.2.2.1, .int .i64 (t.2.2.2.1.getD (Int.toNat i) tIns.dflt).2.2.2.2.2.1, .int .i64 (t.2.2.2.1.getD (Int.toNat i) tIns.dflt).2.2.2.2.2.2.1, .int .i64 (t.2.2.2.1.getD (Int.toNat i) tIns.dflt).2.2.2.2.2.2.2], .cells 46 [.int .i64 (t.2.2.2.1.getD (Int.toNat (t.2.2.2.1.getD (Int.toNat i) tIns.dflt).2.1) tIns.dflt).1, .int .i64 (t.2.2.2.1.getD (Int.toNat (t.2.2.2.1.getD (Int.toNat i) tIns.dflt).2.1) tIns.dflt).2.1, .int .i64 (t.2.2.2.1.getD (Int.toNat (t.2.2.2.1.getD (Int.toNat i) tIns.dflt).2.1) tIns.dflt).2.2.1, .int .i64 (t.2.2.2.1.getD (Int.toNat (t.2.2.2.1.getD (Int.toNat i) tIns.dflt).2.1) tIns.dflt).2.2.2.1, .int .i64 (t.2.2.2.1.getD (Int.toNat (t.2.2.2.1.getD (Int.toNat i) tIns.dflt).2.1) tIns.dflt).2.2.2.2.1, .int .i64 (t.2.2.2.1.getD (Int.toNat (t.2.2.2.1.getD (Int.toNat i) tIns.dflt).2.1) tIns.dflt).2.2.2.2.2.1, .int .i64 (t.2.2.2.1.getD (Int.toNat (t.2.2.2.1.getD (Int.toNat i) tIns.dflt).2.1) tIns.dflt).2.2.2.2.2.2.1, .int .i64 (t.2.2.2.1.getD (Int.toNat (t.2.2.2.1.getD (Int.toNat i) tIns.dflt).2.1) tIns.dflt).2.2.2.2.2.2.2]])
   (.need (inR .i64 (1 - 1)) <|
    .callH 97 [.c (.ptr 0 0 0 0), .agg [.int .i64 s0, .int .i64 s1], .c (.int .i64 v), .c (.int .i64 (t.2.2.2.1.getD (Int.toNat (t.2.2.2.1.getD (Int.toNat i) tIns.dflt).2.1) tIns.dflt).2.2.1), .c (.int .i64 (t.2.2.2.1.getD (Int.toNat (t.2.2.2.1.getD (Int.toNat i) tIns.dflt).2.1) tIns.dflt).2.1), .c (.int .i64 (1 - 1)), .c (.int .i64 i)] [.cells 128 (Ty.enc tTrace t ++ [.map 1]), .map 164 tVal tVal n1 m1, .cells 130 [.int .i64 0, .int .i64 0], .vec 164 tI ([v, a]), .cells 130 [.int .i64 s0, .int .i64 s1], .cells 46 [.int .i64 (t.2.2.2.1.getD (Int.toNat i) tIns.dflt).1, .int .i64 (t.2.2.2.1.getD (Int.toNat i) tIns.dflt).2.1, .int .i64 (t.2.2.2.1.getD (Int.toNat i) tIns.dflt).2.2.1, .int .i64 (t.2.2.2.1.getD (Int.toNat i) tIns.dflt).2.2.2.1, .int .i64 (t.2.2.2.1.getD (Int.toNat i) tIns.dflt).2.2.2.2.1, .int .i64 (t.2.2.2.1.getD (Int.toNat i) tIns.dflt).2.2.2.2.2.1, .int .i64 (t.2.2.2.1.getD (Int.toNat i) tIns.dflt).2.2.2.2.2.2.1, .int .i64 (t.2.2.2.1.getD (Int.toNat i) tIns.dflt).2.2.2.2.2.2.2], .cells 46 [.int .i64 (t.2.2.2.1.getD (Int.toNat (t.2.2.2.1.getD (Int.toNat i) tIns.dflt).2.1) tIns.dflt).1, .int .i64 (t.2.2.2.1.getD (Int.toNat (t.2.2.2.1.getD (Int.toNat i) tIns.dflt).2.1) tIns.dflt).2.1, .int .i64 (t.2.2.2.1.getD (Int.toNat (t.2.2.2.1.getD (Int.toNat i) tIns.dflt).2.1) tIns.dflt).2.2.1, .int .i64 (t.2.2.2.1.getD (Int.toNat (t.2.2.2.1.getD (Int.toNat i) tIns.dflt).2.1) tIns.dflt).2.2.2.1, .int .i64 (t.2.2.2.1.getD (Int.toNat (t.2.2.2.1.getD (Int.toNat i) tIns.dflt).2.1) tIns.dflt).2.2.2.2.1, .int .i64 (t.2.2.2.1.getD (Int.toNat (t.2.2.2.1.getD (Int.toNat i) tIns.dflt).2.1) tIns.dflt).2.2.2.2.2.1, .int .i64 (t.2.2.2.1.getD (Int.toNat (t.2.2.2.1.getD (Int.toNat i) tIns.dflt).2.1) tIns.dflt).2.2.2.2.2.2.1, .int .i64 (t.2.2.2.1.getD (Int.toNat (t.2.2.2.1.getD (Int.toNat i) tIns.dflt).2.1) tIns.dflt).2.2.2.2.2.2.2]] (.agg [.int .i64 (narM (spanM t k) (s0, s1) v (t.2.2.2.1.getD (Int.toNat (t.2.2.2.1.getD (Int.toNat i) tIns.dflt).2.1) tIns.dflt).2.2.1 (t.2.2.2.1.getD (Int.toNat (t.2.2.2.1.getD (Int.toNat i) tIns.dflt).2.1) tIns.dflt).2.1 (1 - 1) i (n1, m1)).1.1, .int .i64 (narM (spanM t k) (s0, s1) v (t.2.2.2.1.getD (Int.toNat (t.2.2.2.1.getD (Int.toNat i) tIns.dflt).2.1) tIns.dflt).2.2.1 (t.2.2.2.1.getD (Int.toNat (t.2.2.2.1.getD (Int.toNat i) tIns.dflt).2.1) tIns.dflt).2.1 (1 - 1) i (n1, m1)).1.2]) [.cells 128 (Ty.enc tTrace t ++ [.map 1]), .map 164 tVal tVal (narM (spanM t k) (s0, s1) v (t.2.2.2.1.getD (Int.toNat (t.2.2.2.1.getD (Int.toNat i) tIns.dflt).2.1) tIns.dflt).2.2.1 (t.2.2.2.1.getD (Int.toNat (t.2.2.2.1.getD (Int.toNat i) tIns.dflt).2.1) tIns.dflt).2.1 (1 - 1) i (n1, m1)).2.1 (narM (spanM t k) (s0, s1) v (t.2.2.2.1.getD (Int.toNat (t.2.2.2.1.getD (Int.toNat i) tIns.dflt).2.1) tIns.dflt).2.2.1 (t.2.2.2.1.getD (Int.toNat (t.2.2.2.1.getD (Int.toNat i) tIns.dflt).2.1) tIns.dflt).2.1 (1 - 1) i (n1, m1)).2.2, .cells 130 [.int .i64 0, .int .i64 0], .vec 164 tI ([v, a]), .cells 130 [.int .i64 s0, .int .i64 s1], .cells 46 [.int .i64 (t.2.2.2.1.getD (Int.toNat i) tIns.dflt).1, .int .i64 (t.2.2.2.1.getD (Int.toNat i) tIns.dflt).2.1, .int .i64 (t.2.2.2.1.getD (Int.toNat i) tIns.dflt).2.2.1, .int .i64 (t.2.2.2.1.getD (Int.toNat i) tIns.dflt).2.2.2.1, .int .i64 (t.2.2.2.1.getD (Int.toNat i) tIns.dflt).2.2.2.2.1, .int .i64 (t.2.2.2.1.getD (Int.toNat i) tIns.dflt).2.2.2.2.2.1, .int .i64 (t.2.2.2.1.getD (Int.toNat i) tIns.dflt).2.2.2.2.2.2.1, .int .i64 (t.2.2.2.1.getD (Int.toNat i) tIns.dflt).2.2.2.2.2.2.2], .cells 46 [.int .i64 (t.2.2.2.1.getD (Int.toNat (t.2.2.2.1.getD (Int.toNat i) tIns.dflt).2.1) tIns.dflt).1, .int .i64 (t.2.2.2.1.getD (Int.toNat (t.2.2.2.1.getD (Int.toNat i) tIns.dflt).2.1) tIns.dflt).2.1, .int .i64 (t.2.2.2.1.getD (Int.toNat (t.2.2.2.1.getD (Int.toNat i) tIns.dflt).2.1) tIns.dflt).2.2.1, .int .i64 (t.2.2.2.1.getD (Int.toNat (t.2.2.2.1.getD (Int.toNat i) tIns.dflt).2.1) tIns.dflt).2.2.2.1, .int .i64 (t.2.2.2.1.getD (Int.toNat (t.2.2.2.1.getD (Int.toNat i) tIns.dflt).2.1) tIns.dflt).2.2.2.2.1, .int .i64 (t.2.2.2.1.getD (Int.toNat (t.2.2.2.1.getD (Int.toNat i) tIns.dflt).2.1) tIns.dflt).2.2.2.2.2.1, .int .i64 (t.2.2.2.1.getD (Int.toNat (t.2.2.2.1.getD (Int.toNat i) tIns.dflt).2.1) tIns.dflt).2.2.2.2.2.2.1, .int .i64 (t.2.2.2.1.getD (Int.toNat (t.2.2.2.1.getD (Int.toNat i) tIns.dflt).2.1) tIns.dflt).2.2.2.2.2.2.2]] [0, 1] <|
    .need (inR .i64 (i + 1)) <|
    .stop (lp (bodyOf Tryd.f62) 0) (.c (.ptr 0 0 0 0) :: .c (.int .i64 v) :: .c (.int .i64 a) :: J2 (.junk :: .c (.ptr 2 0 0 0) :: .c (.ptr 3 0 0 0) :: J2 (.c (.ptr 4 0 0 0) :: .c (.int .i64 (i + 1)) :: .c (.ptr 5 0 0 0) :: .c (.ptr 6 0 0 0) :: J32 (J32 (J32 (J8 (J4 (J2 (.junk :: []))))))))) [.cells 128 (Ty.enc tTrace t ++ [.map 1]), .map 164 tVal tVal (narM (spanM t k) (s0, s1) v (t.2.2.2.1.getD (Int.toNat (t.2.2.2.1.getD (Int.toNat i) tIns.dflt).2.1) tIns.dflt).2.2.1 (t.2.2.2.1.getD (Int.toNat (t.2.2.2.1.getD (Int.toNat i) tIns.dflt).2.1) tIns.dflt).2.1 (1 - 1) i (n1, m1)).2.1 (narM (spanM t k) (s0, s1) v (t.2.2.2.1.getD (Int.toNat (t.2.2.2.1.getD (Int.toNat i) tIns.dflt).2.1) tIns.dflt).2.2.1 (t.2.2.2.1.getD (Int.toNat (t.2.2.2.1.getD (Int.toNat i) tIns.dflt).2.1) tIns.dflt).2.1 (1 - 1) i (n1, m1)).2.2, .cells 130 [.int .i64 0, .int .i64 0], .vec 164 tI ([v, a]), .cells 130 [.int .i64 (narM (spanM t k) (s0, s1) v (t.2.2.2.1.getD (Int.toNat (t.2.2.2.1.getD (Int.toNat i) tIns.dflt).2.1) tIns.dflt).2.2.1 (t.2.2.2.1.getD (Int.toNat (t.2.2.2.1.getD (Int.toNat i) tIns.dflt).2.1) tIns.dflt).2.1 (1 - 1) i (n1, m1)).1.1, .int .i64 (narM (spanM t k) (s0, s1) v (t.2.2.2.1.getD (Int.toNat (t.2.2.2.1.getD (Int.toNat i) tIns.dflt).2.1) tIns.dflt).2.2.1 (t.2.2.2.1.getD (Int.toNat (t.2.2.2.1.getD (Int.toNat i) tIns.dflt).2.1) tIns.dflt).2.1 (1 - 1) i (n1, m1)).1.2], .cells 46 [.int .i64 (t.2.2.2.1.getD (Int.toNat i) tIns.dflt).1, .int .i64 (t.2.2.2.1.getD (Int.toNat i) tIns.dflt).2.1, .int .i64 (t.2.2.2.1.getD (Int.toNat i) tIns.dflt).2.2.1, .int .i64 (t.2.2.2.1.getD (Int.toNat i) tIns.dflt).2.2.2.1, .int .i64 (t.2.2.2.1.getD (Int.toNat i) tIns.dflt).2.2.2.2.1, .int .i64 (t.2.2.2.1.getD (Int.toNat i) tIns.dflt).2.2.2.2.2.1, .int .i64 (t.2.2.2.1.getD (Int.toNat i) tIns.dflt).2.2.2.2.2.2.1, .int .i64 (t.2.2.2.1.getD (Int.toNat i) tIns.dflt).2.2.2.2.2.2.2], .cells 46 [.int .i64 (t.2.2.2.1.getD (Int.toNat (t.2.2.2.1.getD (Int.toNat i) tIns.dflt).2.1) tIns.dflt).1, .int .i64 (t.2.2.2.1.getD (Int.toNat (t.2.2.2.1.getD (Int.toNat i) tIns.dflt).2.1) tIns.dflt).2.1, .int .i64 (t.2.2.2.1.getD (Int.toNat (t.2.2.2.1.getD (Int.toNat i) tIns.dflt).2.1) tIns.dflt).2.2.1, .int .i64 (t.2.2.2.1.getD (Int.toNat (t.2.2.2.1.getD (Int.toNat i) tIns.dflt).2.1) tIns.dflt).2.2.2.1, .int .i64 (t.2.2.2.1.getD (Int.toNat (t.2.2.2.1.getD (Int.toNat i) tIns.dflt).2.1) tIns.dflt).2.2.2.2.1, .int .i64 (t.2.2.2.1.getD (Int.toNat (t.2.2.2.1.getD (Int.toNat i) tIns.dflt).2.1) tIns.dflt).2.2.2.2.2.1, .int .i64 (t.2.2.2.1.getD (Int.toNat (t.2.2.2.1.getD (Int.toNat i) tIns.dflt).2.1) tIns.dflt).2.2.2.2.2.2.1, .int .i64 (t.2.2.2.1.getD (Int.toNat (t.2.2.2.1.getD (Int.toNat i) tIns.dflt).2.1) tIns.dflt).2.2.2.2.2.2.2]]))
  (.ite (decide ((t.2.2.2.1.getD (Int.toNat i) tIns.dflt).2.2.2.2.1 = 1))
   (.callH 97 [.c (.ptr 0 0 0 0), .agg [.int .i64 s0, .int .i64 s1], .c (.int .i64 v), .c (.int .i64 (t.2.2.2.1.getD (Int.toNat (t.2.2.2.1.getD (Int.toNat i) tIns.dflt).2.1) tIns.dflt).2.1), .c (.int .i64 (t.2.2.2.1.getD (Int.toNat (t.2.2.2.1.getD (Int.toNat i) tIns.dflt).2.1) tIns.dflt).2.2.1), .c (.int .i64 0), .c (.int .i64 i)] [.cells 128 (Ty.enc tTrace t ++ [.map 1]), .map 164 tVal tVal n1 m1, .cells 130 [.int .i64 0, .int .i64 0], .vec 164 tI ([v, a]), .cells 130 [.int .i64 s0, .int .i64 s1], .cells 46 [.int .i64 (t.2.2.2.1.getD (Int.toNat i) tIns.dflt).1, .int .i64 (t.2.2.2.1.getD (Int.toNat i) tIns.dflt).2.1, .int .i64 (t.2.2.2.1.getD (Int.toNat i) tIns.dflt).2.2.1, .int .i64 (t.2.2.2.1.getD (Int.toNat i) tIns.dflt).2.2.2.1, .int .i64 (t.2.2.2.1.getD (Int.toNat i) tIns.dflt).2.2.2.2.1, .int .i64 (t.2.2.2.1.getD (Int.toNat i) tIns.dflt).2.2.2.2.2.1, .int .i64 (t.2.2.2.1.getD (Int.toNat i) tIns.dflt).2.2.2.2.2.2.1, .int .i64 (t.2.2.2.1.getD (Int.toNat i) tIns.dflt).2.2.2.2.2.2.2], .cells 46 [.int .i64 (t.2.2.2.1.getD (Int.toNat (t.2.2.2.1.getD (Int.toNat i) tIns.dflt).2.1) tIns.dflt).1, .int .i64 (t.2.2.2.1.getD (Int.toNat (t.2.2.2.1.getD (Int.toNat i) tIns.dflt).2.1) tIns.dflt).2.1, .int .i64 (t.2.2.2.1.getD (Int.toNat (t.2.2.2.1.getD (Int.toNat i) tIns.dflt).2.1) tIns.dflt).2.2.1, .int .i64 (t.2.2.2.1.getD (Int.toNat (t.2.2.2.1.getD (Int.toNat i) tIns.dflt).2.1) tIns.dflt).2.2.2.1, .int .i64 (t.2.2.2.1.getD (Int.toNat (t.2.2.2.1.getD (Int.toNat i) tIns.dflt).2.1) tIns.dflt).2.2.2.2.1, .int .i64 (t.2.2.2.1.getD (Int.toNat (t.2.2.2.1.getD (Int.toNat i) tIns.dflt).2.1) tIns.dflt).2.2.2.2.2.1, .int .i64 (t.2.2.2.1.getD (Int.toNat (t.2.2.2.1.getD (Int.toNat i) tIns.dflt).2.1) tIns.dflt).2.2.2.2.2.2.1, .int .i64 (t.2.2.2.1.getD (Int.toNat (t.2.2.2.1.getD (Int.toNat i) tIns.dflt).2.1) tIns.dflt).2.2.2.2.2.2.2]] (.agg [.int .i64 (narM (spanM t k) (s0, s1) v (t.2.2.2.1.getD (Int.toNat (t.2.2.2.1.getD (Int.toNat i) tIns.dflt).2.1) tIns.dflt).2.1 (t.2.2.2.1.getD (Int.toNat (t.2.2.2.1.getD (Int.toNat i) tIns.dflt).2.1) tIns.dflt).2.2.1 0 i (n1, m1)).1.1, .int .i64 (narM (spanM t k) (s0, s1) v (t.2.2.2.1.getD (Int.toNat (t.2.2.2.1.getD (Int.toNat i) tIns.dflt).2.1) tIns.dflt).2.1 (t.2.2.2.1.getD (Int.toNat (t.2.2.2.1.getD (Int.toNat i) tIns.dflt).2.1) tIns.dflt).2.2.1 0 i (n1, m1)).1.2]) [.cells 128 (Ty.enc tTrace t ++ [.map 1]), .map 164 tVal tVal (narM (spanM t k) (s0, s1) v (t.2.2.2.1.getD (Int.toNat (t.2.2.2.1.getD (Int.toNat i) tIns.dflt).2.1) tIns.dflt).2.1 (t.2.2.2.1.getD (Int.toNat (t.2.2.2.1.getD (Int.toNat i) tIns.dflt).2.1) tIns.dflt).2.2.1 0 i (n1, m1)).2.1 (narM (spanM t k) (s0, s1) v (t.2.2.2.1.getD (Int.toNat (t.2.2.2.1.getD (Int.toNat i) tIns.dflt).2.1) tIns.dflt).2.1 (t.2.2.2.1.getD (Int.toNat (t.2.2.2.1.getD (Int.toNat i) tIns.dflt).2.1) tIns.dflt).2.2.1 0 i (n1, m1)).2.2, .cells 130 [.int .i64 0, .int .i64 0], .vec 164 tI ([v, a]), .cells 130 [.int .i64 s0, .int .i64 s1], .cells 46 [.int .i64 (t.2.2.2.1.getD (Int.toNat i) tIns.dflt).1, .int .i64 (t.2.2.2.1.getD (Int.toNat i) tIns.dflt).2.1, .int .i64 (t.2.2.2.1.getD (Int.toNat i) tIns.dflt).2.2.1, .int .i64 (t.2.2.2.1.getD (Int.toNat i) tIns.dflt).2.2.2.1, .int .i64 (t.2.2.2.1.getD (Int.toNat i) tIns.dflt).2.2.2.2.1, .int .i64 (t.2.2.2.1.getD (Int.toNat i) tIns.dflt).2.2.2.2.2.1, .int .i64 (t.2.2.2.1.getD (Int.toNat i) tIns.dflt).2.2.2.2.2.2.1, .int .i64 (t.2.2.2.1.getD (Int.toNat i) tIns.dflt).2.2.2.2.2.2.2], .cells 46 [.int .i64 (t.2.2.2.1.getD (Int.toNat (t.2.2.2.1.getD (Int.toNat i) tIns.dflt).2.1) tIns.dflt).1, .int .i64 (t.2.2.2.1.getD (Int.toNat (t.2.2.2.1.getD (Int.toNat i) tIns.dflt).2.1) tIns.dflt).2.1, .int .i64 (t.2.2.2.1.getD (Int.toNat (t.2.2.2.1.getD (Int.toNat i) tIns.dflt).2.1) tIns.dflt).2.2.1, .int .i64 (t.2.2.2.1.getD (Int.toNat (t.2.2.2.1.getD (Int.toNat i) tIns.dflt).2.1) tIns.dflt).2.2.2.1, .int .i64 (t.2.2.2.1.getD (Int.toNat (t.2.2.2.1.getD (Int.toNat i) tIns.dflt).2.1) tIns.dflt).2.2.2.2.1, .int .i64 (t.2.2.2.1.getD (Int.toNat (t.2.2.2.1.getD (Int.toNat i) tIns.dflt).2.1) tIns.dflt).2.2.2.2.2.1, .int .i64 (t.2.2.2.1.getD (Int.toNat (t.2.2.2.1.getD (Int.toNat i) tIns.dflt).2.1) tIns.dflt).2.2.2.2.2.2.1, .int .i64 (t.2.2.2.1.getD (Int.toNat (t.2.2.2.1.getD (Int.toNat i) tIns.dflt).2.1) tIns.dflt).2.2.2.2.2.2.2]] [0, 1] <|
    .need (inR .i64 (i + 1)) <|
    .stop (lp (bodyOf Tryd.f62) 0) (.c (.ptr 0 0 0 0) :: .c (.int .i64 v) :: .c (.int .i64 a) :: J2 (.junk :: .c (.ptr 2 0 0 0) :: .c (.ptr 3 0 0 0) :: J2 (.c (.ptr 4 0 0 0) :: .c (.int .i64 (i + 1)) :: .c (.ptr 5 0 0 0) :: .c (.ptr 6 0 0 0) :: J32 (J32 (J32 (J8 (J4 (J2 (.junk :: []))))))))) [.cells 128 (Ty.enc tTrace t ++ [.map 1]), .map 164 tVal tVal (narM (spanM t k) (s0, s1) v (t.2.2.2.1.getD (Int.toNat (t.2.2.2.1.getD (Int.toNat i) tIns.dflt).2.1) tIns.dflt).2.1 (t.2.2.2.1.getD (Int.toNat (t.2.2.2.1.getD (Int.toNat i) tIns.dflt).2.1) tIns.dflt).2.2.1 0 i (n1, m1)).2.1 (narM (spanM t k) (s0, s1) v (t.2.2.2.1.getD (Int.toNat (t.2.2.2.1.getD (Int.toNat i) tIns.dflt).2.1) tIns.dflt).2.1 (t.2.2.2.1.getD (Int.toNat (t.2.2.2.1.getD (Int.toNat i) tIns.dflt).2.1) tIns.dflt).2.2.1 0 i (n1, m1)).2.2, .cells 130 [.int .i64 0, .int .i64 0], .vec 164 tI ([v, a]), .cells 130 [.int .i64 (narM (spanM t k) (s0, s1) v (t.2.2.2.1.getD (Int.toNat (t.2.2.2.1.getD (Int.toNat i) tIns.dflt).2.1) tIns.dflt).2.1 (t.2.2.2.1.getD (Int.toNat (t.2.2.2.1.getD (Int.toNat i) tIns.dflt).2.1) tIns.dflt).2.2.1 0 i (n1, m1)).1.1, .int .i64 (narM (spanM t k) (s0, s1) v (t.2.2.2.1.getD (Int.toNat (t.2.2.2.1.getD (Int.toNat i) tIns.dflt).2.1) tIns.dflt).2.1 (t.2.2.2.1.getD (Int.toNat (t.2.2.2.1.getD (Int.toNat i) tIns.dflt).2.1) tIns.dflt).2.2.1 0 i (n1, m1)).1.2], .cells 46 [.int .i64 (t.2.2.2.1.getD (Int.toNat i) tIns.dflt).1, .int .i64 (t.2.2.2.1.getD (Int.toNat i) tIns.dflt).2.1, .int .i64 (t.2.2.2.1.getD (Int.toNat i) tIns.dflt).2.2.1, .int .i64 (t.2.2.2.1.getD (Int.toNat i) tIns.dflt).2.2.2.1, .int .i64 (t.2.2.2.1.getD (Int.toNat i) tIns.dflt).2.2.2.2.1, .int .i64 (t.2.2.2.1.getD (Int.toNat i) tIns.dflt).2.2.2.2.2.1, .int .i64 (t.2.2.2.1.getD (Int.toNat i) tIns.dflt).2.2.2.2.2.2.1, .int .i64 (t.2.2.2.1.getD (Int.toNat i) tIns.dflt).2.2.2.2.2.2.2], .cells 46 [.int .i64 (t.2.2.2.1.getD (Int.toNat (t.2.2.2.1.getD (Int.toNat i) tIns.dflt).2.1) tIns.dflt).1, .int .i64 (t.2.2.2.1.getD (Int.toNat (t.2.2.2.1.getD (Int.toNat i) tIns.dflt).2.1) tIns.dflt).2.1, .int .i64 (t.2.2.2.1.getD (Int.toNat (t.2.2.2.1.getD (Int.toNat i) tIns.dflt).2.1) tIns.dflt).2.2.1, .int .i64 (t.2.2.2.1.getD (Int.toNat (t.2.2.2.1.getD (Int.toNat i) tIns.dflt).2.1) tIns.dflt).2.2.2.1, .int .i64 (t.2.2.2.1.getD (Int.toNat (t.2.2.2.1.getD (Int.toNat i) tIns.dflt).2.1) tIns.dflt).2.2.2.2.1, .int .i64 (t.2.2.2.1.getD (Int.toNat (t.2.2.2.1.getD (Int.toNat i) tIns.dflt).2.1) tIns.dflt).2.2.2.2.2.1, .int .i64 (t.2.2.2.1.getD (Int.toNat (t.2.2.2.1.getD (Int.toNat i) tIns.dflt).2.1) tIns.dflt).2.2.2.2.2.2.1, .int .i64 (t.2.2.2.1.getD (Int.toNat (t.2.2.2.1.getD (Int.toNat i) tIns.dflt).2.1) tIns.dflt).2.2.2.2.2.2.2]])
   (.need (inR .i64 (1 - 0)) <|
    .callH 97 [.c (.ptr 0 0 0 0), .agg [.int .i64 s0, .int .i64 s1], .c (.int .i64 v), .c (.int .i64 (t.2.2.2.1.getD (Int.toNat (t.2.2.2.1.getD (Int.toNat i) tIns.dflt).2.1) tIns.dflt).2.2.1), .c (.int .i64 (t.2.2.2.1.getD (Int.toNat (t.2.2.2.1.getD (Int.toNat i) tIns.dflt).2.1) tIns.dflt).2.1), .c (.int .i64 (1 - 0)), .c (.int .i64 i)] [.cells 128 (Ty.enc tTrace t ++ [.map 1]), .map 164 tVal tVal n1 m1, .cells 130 [.int .i64 0, .int .i64 0], .vec 164 tI ([v, a]), .cells 130 [.int .i64 s0, .int .i64 s1], .cells 46 [.int .i64 (t.2.2.2.1.getD (Int.toNat i) tIns.dflt).1, .int .i64 (t.2.2.2.1.getD (Int.toNat i) tIns.dflt).2.1, .int .i64 (t.2.2.2.1.getD (Int.toNat i) tIns.dflt).2.2.1, .int .i64 (t.2.2.2.1.getD (Int.toNat i) tIns.dflt).2.2.2.1, .int .i64 (t.2.2.2.1.getD (Int.toNat i) tIns.dflt).2.2.2.2.1, .int .i64 (t.2.2.2.1.getD (Int.toNat i) tIns.dflt).2.2.2.2.2.1, .int .i64 (t.2.2.2.1.getD (Int.toNat i) tIns.dflt).2.2.2.2.2.2.1, .int .i64 (t.2.2.2.1.getD (Int.toNat i) tIns.dflt).2.2.2.2.2.2.2], .cells 46 [.int .i64 (t.2.2.2.1.getD (Int.toNat (t.2.2.2.1.getD (Int.toNat i) tIns.dflt).2.1) tIns.dflt).1, .int .i64 (t.2.2.2.1.getD (Int.toNat (t.2.2.2.1.getD (Int.toNat i) tIns.dflt).2.1) tIns.dflt).2.1, .int .i64 (t.2.2.2.1.getD (Int.toNat (t.2.2.2.1.getD (Int.toNat i) tIns.dflt).2.1) tIns.dflt).2.2.1, .int .i64 (t.2.2.2.1.getD (Int.toNat (t.2.2.2.1.getD (Int.toNat i) tIns.dflt).2.1) tIns.dflt).2.2.2.1, .int .i64 (t.2.2.2.1.getD (Int.toNat (t.2.2.2.1.getD (Int.toNat i) tIns.dflt).2.1) tIns.dflt).2.2.2.2.1, .int .i64 (t.2.2.2.1.getD (Int.toNat (t.2.2.2.1.getD (Int.toNat i) tIns.dflt).2.1) tIns.dflt).2.2.2.2.2.1, .int .i64 (t.2.2.2.1.getD (Int.toNat (t.2.2.2.1.getD (Int.toNat i) tIns.dflt).2.1) tIns.dflt).2.2.2.2.2.2.1, .int .i64 (t.2.2.2.1.getD (Int.toNat (t.2.2.2.1.getD (Int.toNat i) tIns.dflt).2.1) tIns.dflt).2.2.2.2.2.2.2]] (.agg [.int .i64 (narM (spanM t k) (s0, s1) v (t.2.2.2.1.getD (Int.toNat (t.2.2.2.1.getD (Int.toNat i) tIns.dflt).2.1) tIns.dflt).2.2.1 (t.2.2.2.1.getD (Int.toNat (t.2.2.2.1.getD (Int.toNat i) tIns.dflt).2.1) tIns.dflt).2.1 (1 - 0) i (n1, m1)).1.1, .int .i64 (narM (spanM t k) (s0, s1) v (t.2.2.2.1.getD (Int.toNat (t.2.2.2.1.getD (Int.toNat i) tIns.dflt).2.1) tIns.dflt).2.2.1 (t.2.2.2.1.getD (Int.toNat (t.2.2.2.1.getD (Int.toNat i) tIns.dflt).2.1) tIns.dflt).2.1 (1 - 0) i (n1, m1)).1.2]) [.cells 128 (Ty.enc tTrace t ++ [.map 1]), .map 164 tVal tVal (narM (spanM t k) (s0, s1) v (t.2.2.2.1.getD (Int.toNat (t.2.2.2.1.getD (Int.toNat i) tIns.dflt).2.1) tIns.dflt).2.2.1 (t.2.2.2.1.getD (Int.toNat (t.2.2.2.1.getD (Int.toNat i) tIns.dflt).2.1) tIns.dflt).2.1 (1 - 0) i (n1, m1)).2.1 (narM (spanM t k) (s0, s1) v (t.2.2.2.1.getD (Int.toNat (t.2.2.2.1.getD (Int.toNat i) tIns.dflt).2.1) tIns.dflt).2.2.1 (t.2.2.2.1.getD (Int.toNat (t.2.2.2.1.getD (Int.toNat i) tIns.dflt).2.1) tIns.dflt).2.1 (1 - 0) i (n1, m1)).2.2, .cells 130 [.int .i64 0, .int .i64 0], .vec 164 tI ([v, a]), .cells 130 [.int .i64 s0, .int .i64 s1], .cells 46 [.int .i64 (t.2.2.2.1.getD (Int.toNat i) tIns.dflt).1, .int .i64 (t.2.2.2.1.getD (Int.toNat i) tIns.dflt).2.1, .int .i64 (t.2.2.2.1.getD (Int.toNat i) tIns.dflt).2.2.1, .int .i64 (t.2.2.2.1.getD (Int.toNat i) tIns.dflt).2.2.2.1, .int .i64 (t.2.2.2.1.getD (Int.toNat i) tIns.dflt).2.2.2.2.1, .int .i64 (t.2.2.2.1.getD (Int.toNat i) tIns.dflt).2.2.2.2.2.1, .int .i64 (t.2.2.2.1.getD (Int.toNat i) tIns.dflt).2.2.2.2.2.2.1, .int .i64 (t.2.2.2.1.getD (Int.toNat i) tIns.dflt).2.2.2.2.2.2.2], .cells 46 [.int .i64 (t.2.2.2.1.getD (Int.toNat (t.2.2.2.1.getD (Int.toNat i) tIns.dflt).2.1) tIns.dflt).1, .int .i64 (t.2.2.2.1.getD (Int.toNat (t.2.2.2.1.getD (Int.toNat i) tIns.dflt).2.1) tIns.dflt).2.1, .int .i64 (t.2.2.2.1.getD (Int.toNat (t.2.2.2.1.getD (Int.toNat i) tIns.dflt).2.1) tIns.dflt).2.2.1, .int .i64 (t.2.2.2.1.getD (Int.toNat (t.2.2.2.1.getD (Int.toNat i) tIns.dflt).2.1) tIns.dflt).2.2.2.1, .int .i64 (t.2.2.2.1.getD (Int.toNat (t.2.2.2.1.getD (Int.toNat i) tIns.dflt).2.1) tIns.dflt).2.2.2.2.1, .int .i64 (t.2.2.2.1.getD (Int.toNat (t.2.2.2.1.getD (Int.toNat i) tIns.dflt).2.1) tIns.dflt).2.2.2.2.2.1, .int .i64 (t.2.2.2.1.getD (Int.toNat (t.2.2.2.1.getD (Int.toNat i) tIns.dflt).2.1) tIns.dflt).2.2.2.2.2.2.1, .int .i64 (t.2.2.2.1.getD (Int.toNat (t.2.2.2.1.getD (Int.toNat i) tIns.dflt).2.1) tIns.dflt).2.2.2.2.2.2.2]] [0, 1] <|
    .need (inR .i64 (i + 1)) <|
    .stop (lp (bodyOf Tryd.f62) 0) (.c (.ptr 0 0 0 0) :: .c (.int .i64 v) :: .c (.int .i64 a) :: J2 (.junk :: .c (.ptr 2 0 0 0) :: .c (.ptr 3 0 0 0) :: J2 (.c (.ptr 4 0 0 0) :: .c (.int .i64 (i + 1)) :: .c (.ptr 5 0 0 0) :: .c (.ptr 6 0 0 0) :: J32 (J32 (J32 (J8 (J4 (J2 (.junk :: []))))))))) [.cells 128 (Ty.enc tTrace t ++ [.map 1]), .map 164 tVal tVal (narM (spanM t k) (s0, s1) v (t.2.2.2.1.getD (Int.toNat (t.2.2.2.1.getD (Int.toNat i) tIns.dflt).2.1) tIns.dflt).2.2.1 (t.2.2.2.1.getD (Int.toNat (t.2.2.2.1.getD (Int.toNat i) tIns.dflt).2.1) tIns.dflt).2.1 (1 - 0) i (n1, m1)).2.1 (narM (spanM t k) (s0, s1) v (t.2.2.2.1.getD (Int.toNat (t.2.2.2.1.getD (Int.toNat i) tIns.dflt).2.1) tIns.dflt).2.2.1 (t.2.2.2.1.getD (Int.toNat (t.2.2.2.1.getD (Int.toNat i) tIns.dflt).2.1) tIns.dflt).2.1 (1 - 0) i (n1, m1)).2.2, .cells 130 [.int .i64 0, .int .i64 0], .vec 164 tI ([v, a]), .cells 130 [.int .i64 (narM (spanM t k) (s0, s1) v (t.2.2.2.1.getD (Int.toNat (t.2.2.2.1.getD (Int.toNat i) tIns.dflt).2.1) tIns.dflt).2.2.1 (t.2.2.2.1.getD (Int.toNat (t.2.2.2.1.getD (Int.toNat i) tIns.dflt).2.1) tIns.dflt).2.1 (1 - 0) i (n1, m1)).1.1, .int .i64 (narM (spanM t k) (s0, s1) v (t.2.2.2.1.getD (Int.toNat (t.2.2.2.1.getD (Int.toNat i) tIns.dflt).2.1) tIns.dflt).2.2.1 (t.2.2.2.1.getD (Int.toNat (t.2.2.2.1.getD (Int.toNat i) tIns.dflt).2.1) tIns.dflt).2.1 (1 - 0) i (n1, m1)).1.2], .cells 46 [.int .i64 (t.2.2.2.1.getD (Int.toNat i) tIns.dflt).1, .int .i64 (t.2.2.2.1.getD (Int.toNat i) tIns.dflt).2.1, .int .i64 (t.2.2.2.1.getD (Int.toNat i) tIns.dflt).2.2.1, .int .i64 (t.2.2.2.1.getD (Int.toNat i) tIns.dflt).2.2.2.1, .int .i64 (t.2.2.2.1.getD (Int.toNat i) tIns.dflt).2.2.2.2.1, .int .i64 (t.2.2.2.1.getD (Int.toNat i) tIns.dflt).2.2.2.2.2.1, .int .i64 (t.2.2.2.1.getD (Int.toNat i) tIns.dflt).2.2.2.2.2.2.1, .int .i64 (t.2.2.2.1.getD (Int.toNat i) tIns.dflt).2.2.2.2.2.2.2], .cells 46 [.int .i64 (t.2.2.2.1.getD (Int.toNat (t.2.2.2.1.getD (Int.toNat i) tIns.dflt).2.1) tIns.dflt).1, .int .i64 (t.2.2.2.1.getD (Int.toNat (t.2.2.2.1.getD (Int.toNat i) tIns.dflt).2.1) tIns.dflt).2.1, .int .i64 (t.2.2.2.1.getD (Int.toNat (t.2.2.2.1.getD (Int.toNat i) tIns.dflt).2.1) tIns.dflt).2.2.1, .int .i64 (t.2.2.2.1.getD (Int.toNat (t.2.2.2.1.getD (Int.toNat i) tIns.dflt).2.1) tIns.dflt).2.2.2.1, .int .i64 (t.2.2.2.1.getD (Int.toNat (t.2.2.2.1.getD (Int.toNat i) tIns.dflt).2.1) tIns.dflt).2.2.2.2.1, .int .i64 (t.2.2.2.1.getD (Int.toNat (t.2.2.2.1.getD (Int.toNat i) tIns.dflt).2.1) tIns.dflt).2.2.2.2.2.1, .int .i64 (t.2.2.2.1.getD (Int.toNat (t.2.2.2.1.getD (Int.toNat i) tIns.dflt).2.1) tIns.dflt).2.2.2.2.2.2.1, .int .i64 (t.2.2.2.1.getD (Int.toNat (t.2.2.2.1.getD (Int.toNat i) tIns.dflt).2.1) tIns.dflt).2.2.2.2.2.2.2]]))
theorem span_r13_R_ok (t : ETrace) (n : Nat) (m : EVal → Option EVal) (v : Int) (a : Int) (k : Nat) (i : Int) (n1 : Nat) (m1 : EVal → Option EVal) (s0 : Int) (s1 : Int) : aRound Tryd.prog (oc107 k) Tryd.f62 span_lv 3000 (rg (bodyOf Tryd.f62) 13) (.c (.ptr 0 0 0 0) :: .c (.int .i64 v) :: .c (.int .i64 a) :: J2 (.junk :: .c (.ptr 2 0 0 0) :: .c (.ptr 3 0 0 0) :: J2 (.c (.ptr 4 0 0 0) :: .c (.int .i64 i) :: .c (.ptr 5 0 0 0) :: .c (.ptr 6 0 0 0) :: J32 (J32 (J32 (J8 (J4 (J2 (.junk :: []))))))))) [.cells 128 (Ty.enc tTrace t ++ [.map 1]), .map 164 tVal tVal n1 m1, .cells 130 [.int .i64 0, .int .i64 0], .vec 164 tI ([v, a]), .cells 130 [.int .i64 s0, .int .i64 s1], .cells 46 [.int .i64 (t.2.2.2.1.getD (Int.toNat i) tIns.dflt).1, .int .i64 (t.2.2.2.1.getD (Int.toNat i) tIns.dflt).2.1, .int .i64 (t.2.2.2.1.getD (Int.toNat i) tIns.dflt).2.2.1, .int .i64 (t.2.2.2.1.getD (Int.toNat i) tIns.dflt).2.2.2.1, .int .i64 (t.2.2.2.1.getD (Int.toNat i) tIns.dflt).2.2.2.2.1, .int .i64 (t.2.2.2.1.getD (Int.toNat i) tIns.dflt).2.2.2.2.2.1, .int .i64 (t.2.2.2.1.getD (Int.toNat i) tIns.dflt).2.2.2.2.2.2.1, .int .i64 (t.2.2.2.1.getD (Int.toNat i) tIns.dflt).2.2.2.2.2.2.2], .cells 46 [.int .i64 (t.2.2.2.1.getD (Int.toNat (t.2.2.2.1.getD (Int.toNat i) tIns.dflt).2.1) tIns.dflt).1, .int .i64 (t.2.2.2.1.getD (Int.toNat (t.2.2.2.1.getD (Int.toNat i) tIns.dflt).2.1) tIns.dflt).2.1, .int .i64 (t.2.2.2.1.getD (Int.toNat (t.2.2.2.1.getD (Int.toNat i) tIns.dflt).2.1) tIns.dflt).2.2.1, .int .i64 (t.2.2.2.1.getD (Int.toNat (t.2.2.2.1.getD (Int.toNat i) tIns.dflt).2.1) tIns.dflt).2.2.2.1, .int .i64 (t.2.2.2.1.getD (Int.toNat (t.2.2.2.1.getD (Int.toNat i) tIns.dflt).2.1) tIns.dflt).2.2.2.2.1, .int .i64 (t.2.2.2.1.getD (Int.toNat (t.2.2.2.1.getD (Int.toNat i) tIns.dflt).2.1) tIns.dflt).2.2.2.2.2.1, .int .i64 (t.2.2.2.1.getD (Int.toNat (t.2.2.2.1.getD (Int.toNat i) tIns.dflt).2.1) tIns.dflt).2.2.2.2.2.2.1, .int .i64 (t.2.2.2.1.getD (Int.toNat (t.2.2.2.1.getD (Int.toNat i) tIns.dflt).2.1) tIns.dflt).2.2.2.2.2.2.2]] = span_r13_R t n m v a k i n1 m1 s0 s1 := by kernel_rfl
theorem span_r13 (t : ETrace) (n : Nat) (m : EVal → Option EVal) (v : Int) (a : Int) (k : Nat) (i : Int) (n1 : Nat) (m1 : EVal → Option EVal) (s0 : Int) (s1 : Int) (hd : DomC t) (hr : SpanC t k a) (hk : a.toNat ≤ k) (hl : a ≤ (t.2.2.2.1.length : Int)) (hL : t.2.2.2.1.length ≤ 300) (hv : 0 ≤ v ∧ v < a) (hm : KeptOk t (n1, m1)) (hi : v + 1 ≤ i ∧ i < a) (hg : guardOf t v i) (hn' : ∀ (n2 : Nat) (m2 : EVal → Option EVal) (x0 x1 : Int), KeptOk t (n2, m2) → RunN 2 Tryd.prog 62 (finQ Tryd.prog 2 (.agg (Ty.enc tVal ((loopM (spanM t k) t v (a - (i + 1)).toNat (i + 1) (x0, x1) (n2, m2)).1))) [.cells 128 (Ty.enc tTrace t ++ [.map 1]), .map 164 tVal tVal ((loopM (spanM t k) t v (a - (i + 1)).toNat (i + 1) (x0, x1) (n2, m2)).2.1 + 1) (updM (kt := tVal) (loopM (spanM t k) t v (a - (i + 1)).toNat (i + 1) (x0, x1) (n2, m2)).2.2 (v, a) (loopM (spanM t k) t v (a - (i + 1)).toNat (i + 1) (x0, x1) (n2, m2)).1)]) (lp (bodyOf Tryd.f62) 0) (.c (.ptr 0 0 0 0) :: .c (.int .i64 v) :: .c (.int .i64 a) :: J2 (.junk :: .c (.ptr 2 0 0 0) :: .c (.ptr 3 0 0 0) :: J2 (.c (.ptr 4 0 0 0) :: .c (.int .i64 (i + 1)) :: J32 (J32 (J32 (J16 (.junk :: []))))))) [.cells 128 (Ty.enc tTrace t ++ [.map 1]), .map 164 tVal tVal n2 m2, .cells 130 [.int .i64 0, .int .i64 0], .vec 164 tI ([v, a]), .cells 130 [.int .i64 x0, .int .i64 x1]])  : RunN 2 Tryd.prog 62 (finQ Tryd.prog 2 (.agg (Ty.enc tVal ((loopM (spanM t k) t v (a - i).toNat i (s0, s1) (n1, m1)).1))) [.cells 128 (Ty.enc tTrace t ++ [.map 1]), .map 164 tVal tVal ((loopM (spanM t k) t v (a - i).toNat i (s0, s1) (n1, m1)).2.1 + 1) (updM (kt := tVal) (loopM (spanM t k) t v (a - i).toNat i (s0, s1) (n1, m1)).2.2 (v, a) (loopM (spanM t k) t v (a - i).toNat i (s0, s1) (n1, m1)).1)]) (rg (bodyOf Tryd.f62) 13) (.c (.ptr 0 0 0 0) :: .c (.int .i64 v) :: .c (.int .i64 a) :: J2 (.junk :: .c (.ptr 2 0 0 0) :: .c (.ptr 3 0 0 0) :: J2 (.c (.ptr 4 0 0 0) :: .c (.int .i64 i) :: .c (.ptr 5 0 0 0) :: .c (.ptr 6 0 0 0) :: J32 (J32 (J32 (J8 (J4 (J2 (.junk :: []))))))))) [.cells 128 (Ty.enc tTrace t ++ [.map 1]), .map 164 tVal tVal n1 m1, .cells 130 [.int .i64 0, .int .i64 0], .vec 164 tI ([v, a]), .cells 130 [.int .i64 s0, .int .i64 s1], .cells 46 [.int .i64 (t.2.2.2.1.getD (Int.toNat i) tIns.dflt).1, .int .i64 (t.2.2.2.1.getD (Int.toNat i) tIns.dflt).2.1, .int .i64 (t.2.2.2.1.getD (Int.toNat i) tIns.dflt).2.2.1, .int .i64 (t.2.2.2.1.getD (Int.toNat i) tIns.dflt).2.2.2.1, .int .i64 (t.2.2.2.1.getD (Int.toNat i) tIns.dflt).2.2.2.2.1, .int .i64 (t.2.2.2.1.getD (Int.toNat i) tIns.dflt).2.2.2.2.2.1, .int .i64 (t.2.2.2.1.getD (Int.toNat i) tIns.dflt).2.2.2.2.2.2.1, .int .i64 (t.2.2.2.1.getD (Int.toNat i) tIns.dflt).2.2.2.2.2.2.2], .cells 46 [.int .i64 (t.2.2.2.1.getD (Int.toNat (t.2.2.2.1.getD (Int.toNat i) tIns.dflt).2.1) tIns.dflt).1, .int .i64 (t.2.2.2.1.getD (Int.toNat (t.2.2.2.1.getD (Int.toNat i) tIns.dflt).2.1) tIns.dflt).2.1, .int .i64 (t.2.2.2.1.getD (Int.toNat (t.2.2.2.1.getD (Int.toNat i) tIns.dflt).2.1) tIns.dflt).2.2.1, .int .i64 (t.2.2.2.1.getD (Int.toNat (t.2.2.2.1.getD (Int.toNat i) tIns.dflt).2.1) tIns.dflt).2.2.2.1, .int .i64 (t.2.2.2.1.getD (Int.toNat (t.2.2.2.1.getD (Int.toNat i) tIns.dflt).2.1) tIns.dflt).2.2.2.2.1, .int .i64 (t.2.2.2.1.getD (Int.toNat (t.2.2.2.1.getD (Int.toNat i) tIns.dflt).2.1) tIns.dflt).2.2.2.2.2.1, .int .i64 (t.2.2.2.1.getD (Int.toNat (t.2.2.2.1.getD (Int.toNat i) tIns.dflt).2.1) tIns.dflt).2.2.2.2.2.2.1, .int .i64 (t.2.2.2.1.getD (Int.toNat (t.2.2.2.1.getD (Int.toNat i) tIns.dflt).2.1) tIns.dflt).2.2.2.2.2.2.2]] :=
  Run.roundA (oc107 k) span_lv 3000 Tryd.func62 mixed (span_r13_R t n m v a k i n1 m1 s0 s1) (span_r13_R_ok t n m v a k i n1 m1 s0 s1) (by
    unfold span_r13_R
    obtain ⟨g1, g2, g3, g4, g5⟩ := id hg
    have hT : 0 ≤ (t.2.2.2.1.getD (Int.toNat i) tIns.dflt).2.1 ∧ (t.2.2.2.1.getD (Int.toNat i) tIns.dflt).2.1 < i := hd.tru i (by omega) (by omega) g1
    have hB : 0 ≤ (t.2.2.2.1.getD (Int.toNat (t.2.2.2.1.getD (Int.toNat i) tIns.dflt).2.1) tIns.dflt).2.1 ∧ (t.2.2.2.1.getD (Int.toNat (t.2.2.2.1.getD (Int.toNat i) tIns.dflt).2.1) tIns.dflt).2.1 < (t.2.2.2.1.getD (Int.toNat i) tIns.dflt).2.1 ∧ 0 ≤ (t.2.2.2.1.getD (Int.toNat (t.2.2.2.1.getD (Int.toNat i) tIns.dflt).2.1) tIns.dflt).2.2.1 ∧ (t.2.2.2.1.getD (Int.toNat (t.2.2.2.1.getD (Int.toNat i) tIns.dflt).2.1) tIns.dflt).2.2.1 < (t.2.2.2.1.getD (Int.toNat i) tIns.dflt).2.1 := hd.bin _ hT.1 (by omega) g2
    have hA : 0 ≤ (t.2.2.2.1.getD (Int.toNat (t.2.2.2.1.getD (Int.toNat i) tIns.dflt).2.1) tIns.dflt).2.1 ∧ (t.2.2.2.1.getD (Int.toNat (t.2.2.2.1.getD (Int.toNat i) tIns.dflt).2.1) tIns.dflt).2.1 < i := by omega
    have hBB : 0 ≤ (t.2.2.2.1.getD (Int.toNat (t.2.2.2.1.getD (Int.toNat i) tIns.dflt).2.1) tIns.dflt).2.2.1 ∧ (t.2.2.2.1.getD (Int.toNat (t.2.2.2.1.getD (Int.toNat i) tIns.dflt).2.1) tIns.dflt).2.2.1 < i := by omega
    refine g_iteD (fun h0 => ?_) (fun h0 => ?_)
    · refine g_iteD (fun h1 => ?_) (fun h1 => ?_)
      · refine g_callH (AFunH.frameB [0, 1] (narrow_fun t n1 m1 (s0, s1) v (t.2.2.2.1.getD (Int.toNat (t.2.2.2.1.getD (Int.toNat i) tIns.dflt).2.1) tIns.dflt).2.1 (t.2.2.2.1.getD (Int.toNat (t.2.2.2.1.getD (Int.toNat i) tIns.dflt).2.1) tIns.dflt).2.2.1 1 i k a hd hr hk hl (by omega) (by omega) (by omega) (by omega) hm) rfl rfl rfl rfl rfl rfl rfl) ?_
        refine g_need (by first | omega | exact ⟨rfl, lawArr⟩ | exact ⟨rfl, lawArr, by have := hm.small hL; omega⟩ | (rw [i64_iff]; omega) | (constructor <;> omega) | rfl | (simp; done)) ?_
        refine g_stop (RunN.keep [0, 1, 2, 3, 4] (true :: true :: true :: F2 (false :: true :: true :: F2 (true :: true :: F32 (F32 (F32 (F16 (false :: []))))))) (show ∀ k, k < 2 → ([0, 1, 2, 3, 4] : List Nat)[k]? = some k by decide) (by decide) rfl rfl ?_)
        have ht := hn' (narM (spanM t k) (s0, s1) v (t.2.2.2.1.getD (Int.toNat (t.2.2.2.1.getD (Int.toNat i) tIns.dflt).2.1) tIns.dflt).2.1 (t.2.2.2.1.getD (Int.toNat (t.2.2.2.1.getD (Int.toNat i) tIns.dflt).2.1) tIns.dflt).2.2.1 1 i (n1, m1)).2.1 (narM (spanM t k) (s0, s1) v (t.2.2.2.1.getD (Int.toNat (t.2.2.2.1.getD (Int.toNat i) tIns.dflt).2.1) tIns.dflt).2.1 (t.2.2.2.1.getD (Int.toNat (t.2.2.2.1.getD (Int.toNat i) tIns.dflt).2.1) tIns.dflt).2.2.1 1 i (n1, m1)).2.2 (narM (spanM t k) (s0, s1) v (t.2.2.2.1.getD (Int.toNat (t.2.2.2.1.getD (Int.toNat i) tIns.dflt).2.1) tIns.dflt).2.1 (t.2.2.2.1.getD (Int.toNat (t.2.2.2.1.getD (Int.toNat i) tIns.dflt).2.1) tIns.dflt).2.2.1 1 i (n1, m1)).1.1 (narM (spanM t k) (s0, s1) v (t.2.2.2.1.getD (Int.toNat (t.2.2.2.1.getD (Int.toNat i) tIns.dflt).2.1) tIns.dflt).2.1 (t.2.2.2.1.getD (Int.toNat (t.2.2.2.1.getD (Int.toNat i) tIns.dflt).2.1) tIns.dflt).2.2.1 1 i (n1, m1)).1.2 (by first | exact (narM_rel (V := fun (x : EMem) (_ : Unit) => KeptOk t x) (spanM_rel hd.toDomT hk hl) (m' := ()) hA hBB (by omega) hm).2 | exact (narM_rel (V := fun (x : EMem) (_ : Unit) => KeptOk t x) (spanM_rel hd.toDomT hk hl) (m' := ()) hBB hA (by omega) hm).2); first | (rw [loopM_1 (t := t) (v := v) (i := i) (a := a) (by omega) hg h1 (d := 1) (by unfold lessI insV; rw [if_pos h0])]; exact ht) | (rw [loopM_1 (t := t) (v := v) (i := i) (a := a) (by omega) hg h1 (d := 0) (by unfold lessI insV; rw [if_neg h0])]; exact ht) | (rw [loopM_2 (t := t) (v := v) (i := i) (a := a) (by omega) hg h1 (d := 1 - 1) (by unfold lessI insV; rw [if_pos h0])]; exact ht) | (rw [loopM_2 (t := t) (v := v) (i := i) (a := a) (by omega) hg h1 (d := 1 - 0) (by unfold lessI insV; rw [if_neg h0])]; exact ht)
      · refine g_need (by first | omega | exact ⟨rfl, lawArr⟩ | exact ⟨rfl, lawArr, by have := hm.small hL; omega⟩ | (rw [i64_iff]; omega) | (constructor <;> omega) | rfl | (simp; done)) ?_
        refine g_callH (AFunH.frameB [0, 1] (narrow_fun t n1 m1 (s0, s1) v (t.2.2.2.1.getD (Int.toNat (t.2.2.2.1.getD (Int.toNat i) tIns.dflt).2.1) tIns.dflt).2.2.1 (t.2.2.2.1.getD (Int.toNat (t.2.2.2.1.getD (Int.toNat i) tIns.dflt).2.1) tIns.dflt).2.1 (1 - 1) i k a hd hr hk hl (by omega) (by omega) (by omega) (by omega) hm) rfl rfl rfl rfl rfl rfl rfl) ?_
        refine g_need (by first | omega | exact ⟨rfl, lawArr⟩ | exact ⟨rfl, lawArr, by have := hm.small hL; omega⟩ | (rw [i64_iff]; omega) | (constructor <;> omega) | rfl | (simp; done)) ?_
        refine g_stop (RunN.keep [0, 1, 2, 3, 4] (true :: true :: true :: F2 (false :: true :: true :: F2 (true :: true :: F32 (F32 (F32 (F16 (false :: []))))))) (show ∀ k, k < 2 → ([0, 1, 2, 3, 4] : List Nat)[k]? = some k by decide) (by decide) rfl rfl ?_)
        have ht := hn' (narM (spanM t k) (s0, s1) v (t.2.2.2.1.getD (Int.toNat (t.2.2.2.1.getD (Int.toNat i) tIns.dflt).2.1) tIns.dflt).2.2.1 (t.2.2.2.1.getD (Int.toNat (t.2.2.2.1.getD (Int.toNat i) tIns.dflt).2.1) tIns.dflt).2.1 (1 - 1) i (n1, m1)).2.1 (narM (spanM t k) (s0, s1) v (t.2.2.2.1.getD (Int.toNat (t.2.2.2.1.getD (Int.toNat i) tIns.dflt).2.1) tIns.dflt).2.2.1 (t.2.2.2.1.getD (Int.toNat (t.2.2.2.1.getD (Int.toNat i) tIns.dflt).2.1) tIns.dflt).2.1 (1 - 1) i (n1, m1)).2.2 (narM (spanM t k) (s0, s1) v (t.2.2.2.1.getD (Int.toNat (t.2.2.2.1.getD (Int.toNat i) tIns.dflt).2.1) tIns.dflt).2.2.1 (t.2.2.2.1.getD (Int.toNat (t.2.2.2.1.getD (Int.toNat i) tIns.dflt).2.1) tIns.dflt).2.1 (1 - 1) i (n1, m1)).1.1 (narM (spanM t k) (s0, s1) v (t.2.2.2.1.getD (Int.toNat (t.2.2.2.1.getD (Int.toNat i) tIns.dflt).2.1) tIns.dflt).2.2.1 (t.2.2.2.1.getD (Int.toNat (t.2.2.2.1.getD (Int.toNat i) tIns.dflt).2.1) tIns.dflt).2.1 (1 - 1) i (n1, m1)).1.2 (by first | exact (narM_rel (V := fun (x : EMem) (_ : Unit) => KeptOk t x) (spanM_rel hd.toDomT hk hl) (m' := ()) hA hBB (by omega) hm).2 | exact (narM_rel (V := fun (x : EMem) (_ : Unit) => KeptOk t x) (spanM_rel hd.toDomT hk hl) (m' := ()) hBB hA (by omega) hm).2); first | (rw [loopM_1 (t := t) (v := v) (i := i) (a := a) (by omega) hg h1 (d := 1) (by unfold lessI insV; rw [if_pos h0])]; exact ht) | (rw [loopM_1 (t := t) (v := v) (i := i) (a := a) (by omega) hg h1 (d := 0) (by unfold lessI insV; rw [if_neg h0])]; exact ht) | (rw [loopM_2 (t := t) (v := v) (i := i) (a := a) (by omega) hg h1 (d := 1 - 1) (by unfold lessI insV; rw [if_pos h0])]; exact ht) | (rw [loopM_2 (t := t) (v := v) (i := i) (a := a) (by omega) hg h1 (d := 1 - 0) (by unfold lessI insV; rw [if_neg h0])]; exact ht)
    · refine g_iteD (fun h1 => ?_) (fun h1 => ?_)
      · refine g_callH (AFunH.frameB [0, 1] (narrow_fun t n1 m1 (s0, s1) v (t.2.2.2.1.getD (Int.toNat (t.2.2.2.1.getD (Int.toNat i) tIns.dflt).2.1) tIns.dflt).2.1 (t.2.2.2.1.getD (Int.toNat (t.2.2.2.1.getD (Int.toNat i) tIns.dflt).2.1) tIns.dflt).2.2.1 0 i k a hd hr hk hl (by omega) (by omega) (by omega) (by omega) hm) rfl rfl rfl rfl rfl rfl rfl) ?_
        refine g_need (by first | omega | exact ⟨rfl, lawArr⟩ | exact ⟨rfl, lawArr, by have := hm.small hL; omega⟩ | (rw [i64_iff]; omega) | (constructor <;> omega) | rfl | (simp; done)) ?_
        refine g_stop (RunN.keep [0, 1, 2, 3, 4] (true :: true :: true :: F2 (false :: true :: true :: F2 (true :: true :: F32 (F32 (F32 (F16 (false :: []))))))) (show ∀ k, k < 2 → ([0, 1, 2, 3, 4] : List Nat)[k]? = some k by decide) (by decide) rfl rfl ?_)
        have ht := hn' (narM (spanM t k) (s0, s1) v (t.2.2.2.1.getD (Int.toNat (t.2.2.2.1.getD (Int.toNat i) tIns.dflt).2.1) tIns.dflt).2.1 (t.2.2.2.1.getD (Int.toNat (t.2.2.2.1.getD (Int.toNat i) tIns.dflt).2.1) tIns.dflt).2.2.1 0 i (n1, m1)).2.1 (narM (spanM t k) (s0, s1) v (t.2.2.2.1.getD (Int.toNat (t.2.2.2.1.getD (Int.toNat i) tIns.dflt).2.1) tIns.dflt).2.1 (t.2.2.2.1.getD (Int.toNat (t.2.2.2.1.getD (Int.toNat i) tIns.dflt).2.1) tIns.dflt).2.2.1 0 i (n1, m1)).2.2 (narM (spanM t k) (s0, s1) v (t.2.2.2.1.getD (Int.toNat (t.2.2.2.1.getD (Int.toNat i) tIns.dflt).2.1) tIns.dflt).2.1 (t.2.2.2.1.getD (Int.toNat (t.2.2.2.1.getD (Int.toNat i) tIns.dflt).2.1) tIns.dflt).2.2.1 0 i (n1, m1)).1.1 (narM (spanM t k) (s0, s1) v (t.2.2.2.1.getD (Int.toNat (t.2.2.2.1.getD (Int.toNat i) tIns.dflt).2.1) tIns.dflt).2.1 (t.2.2.2.1.getD (Int.toNat (t.2.2.2.1.getD (Int.toNat i) tIns.dflt).2.1) tIns.dflt).2.2.1 0 i (n1, m1)).1.2 (by first | exact (narM_rel (V := fun (x : EMem) (_ : Unit) => KeptOk t x) (spanM_rel hd.toDomT hk hl) (m' := ()) hA hBB (by omega) hm).2 | exact (narM_rel (V := fun (x : EMem) (_ : Unit) => KeptOk t x) (spanM_rel hd.toDomT hk hl) (m' := ()) hBB hA (by omega) hm).2); first | (rw [loopM_1 (t := t) (v := v) (i := i) (a := a) (by omega) hg h1 (d := 1) (by unfold lessI insV; rw [if_pos h0])]; exact ht) | (rw [loopM_1 (t := t) (v := v) (i := i) (a := a) (by omega) hg h1 (d := 0) (by unfold lessI insV; rw [if_neg h0])]; exact ht) | (rw [loopM_2 (t := t) (v := v) (i := i) (a := a) (by omega) hg h1 (d := 1 - 1) (by unfold lessI insV; rw [if_pos h0])]; exact ht) | (rw [loopM_2 (t := t) (v := v) (i := i) (a := a) (by omega) hg h1 (d := 1 - 0) (by unfold lessI insV; rw [if_neg h0])]; exact ht)
      · refine g_need (by first | omega | exact ⟨rfl, lawArr⟩ | exact ⟨rfl, lawArr, by have := hm.small hL; omega⟩ | (rw [i64_iff]; omega) | (constructor <;> omega) | rfl | (simp; done)) ?_
        refine g_callH (AFunH.frameB [0, 1] (narrow_fun t n1 m1 (s0, s1) v (t.2.2.2.1.getD (Int.toNat (t.2.2.2.1.getD (Int.toNat i) tIns.dflt).2.1) tIns.dflt).2.2.1 (t.2.2.2.1.getD (Int.toNat (t.2.2.2.1.getD (Int.toNat i) tIns.dflt).2.1) tIns.dflt).2.1 (1 - 0) i k a hd hr hk hl (by omega) (by omega) (by omega) (by omega) hm) rfl rfl rfl rfl rfl rfl rfl) ?_
        refine g_need (by first | omega | exact ⟨rfl, lawArr⟩ | exact ⟨rfl, lawArr, by have := hm.small hL; omega⟩ | (rw [i64_iff]; omega) | (constructor <;> omega) | rfl | (simp; done)) ?_
        refine g_stop (RunN.keep [0, 1, 2, 3, 4] (true :: true :: true :: F2 (false :: true :: true :: F2 (true :: true :: F32 (F32 (F32 (F16 (false :: []))))))) (show ∀ k, k < 2 → ([0, 1, 2, 3, 4] : List Nat)[k]? = some k by decide) (by decide) rfl rfl ?_)
        have ht := hn' (narM (spanM t k) (s0, s1) v (t.2.2.2.1.getD (Int.toNat (t.2.2.2.1.getD (Int.toNat i) tIns.dflt).2.1) tIns.dflt).2.2.1 (t.2.2.2.1.getD (Int.toNat (t.2.2.2.1.getD (Int.toNat i) tIns.dflt).2.1) tIns.dflt).2.1 (1 - 0) i (n1, m1)).2.1 (narM (spanM t k) (s0, s1) v (t.2.2.2.1.getD (Int.toNat (t.2.2.2.1.getD (Int.toNat i) tIns.dflt).2.1) tIns.dflt).2.2.1 (t.2.2.2.1.getD (Int.toNat (t.2.2.2.1.getD (Int.toNat i) tIns.dflt).2.1) tIns.dflt).2.1 (1 - 0) i (n1, m1)).2.2 (narM (spanM t k) (s0, s1) v (t.2.2.2.1.getD (Int.toNat (t.2.2.2.1.getD (Int.toNat i) tIns.dflt).2.1) tIns.dflt).2.2.1 (t.2.2.2.1.getD (Int.toNat (t.2.2.2.1.getD (Int.toNat i) tIns.dflt).2.1) tIns.dflt).2.1 (1 - 0) i (n1, m1)).1.1 (narM (spanM t k) (s0, s1) v (t.2.2.2.1.getD (Int.toNat (t.2.2.2.1.getD (Int.toNat i) tIns.dflt).2.1) tIns.dflt).2.2.1 (t.2.2.2.1.getD (Int.toNat (t.2.2.2.1.getD (Int.toNat i) tIns.dflt).2.1) tIns.dflt).2.1 (1 - 0) i (n1, m1)).1.2 (by first | exact (narM_rel (V := fun (x : EMem) (_ : Unit) => KeptOk t x) (spanM_rel hd.toDomT hk hl) (m' := ()) hA hBB (by omega) hm).2 | exact (narM_rel (V := fun (x : EMem) (_ : Unit) => KeptOk t x) (spanM_rel hd.toDomT hk hl) (m' := ()) hBB hA (by omega) hm).2); first | (rw [loopM_1 (t := t) (v := v) (i := i) (a := a) (by omega) hg h1 (d := 1) (by unfold lessI insV; rw [if_pos h0])]; exact ht) | (rw [loopM_1 (t := t) (v := v) (i := i) (a := a) (by omega) hg h1 (d := 0) (by unfold lessI insV; rw [if_neg h0])]; exact ht) | (rw [loopM_2 (t := t) (v := v) (i := i) (a := a) (by omega) hg h1 (d := 1 - 1) (by unfold lessI insV; rw [if_pos h0])]; exact ht) | (rw [loopM_2 (t := t) (v := v) (i := i) (a := a) (by omega) hg h1 (d := 1 - 0) (by unfold lessI insV; rw [if_neg h0])]; exact ht)
    )
theorem span_l0 (t : ETrace) (n : Nat) (m : EVal → Option EVal) (v : Int) (a : Int) (k : Nat) (i : Int) (n1 : Nat) (m1 : EVal → Option EVal) (s0 : Int) (s1 : Int) (hd : DomC t) (hr : SpanC t k a) (hk : a.toNat ≤ k) (hl : a ≤ (t.2.2.2.1.length : Int)) (hL : t.2.2.2.1.length ≤ 300) (hv : 0 ≤ v ∧ v < a) (hm : KeptOk t (n1, m1)) (hi : v + 1 ≤ i ∧ i ≤ a) : RunN 2 Tryd.prog 62 (finQ Tryd.prog 2 (.agg (Ty.enc tVal ((loopM (spanM t k) t v (a - i).toNat i (s0, s1) (n1, m1)).1))) [.cells 128 (Ty.enc tTrace t ++ [.map 1]), .map 164 tVal tVal ((loopM (spanM t k) t v (a - i).toNat i (s0, s1) (n1, m1)).2.1 + 1) (updM (kt := tVal) (loopM (spanM t k) t v (a - i).toNat i (s0, s1) (n1, m1)).2.2 (v, a) (loopM (spanM t k) t v (a - i).toNat i (s0, s1) (n1, m1)).1)]) (lp (bodyOf Tryd.f62) 0) (.c (.ptr 0 0 0 0) :: .c (.int .i64 v) :: .c (.int .i64 a) :: J2 (.junk :: .c (.ptr 2 0 0 0) :: .c (.ptr 3 0 0 0) :: J2 (.c (.ptr 4 0 0 0) :: .c (.int .i64 i) :: J32 (J32 (J32 (J16 (.junk :: []))))))) [.cells 128 (Ty.enc tTrace t ++ [.map 1]), .map 164 tVal tVal n1 m1, .cells 130 [.int .i64 0, .int .i64 0], .vec 164 tI ([v, a]), .cells 130 [.int .i64 s0, .int .i64 s1]] :=
  Run.roundA (oc107 k) span_lv 3000 Tryd.func62 mixed (span_l0_R t n m v a k i n1 m1 s0 s1) (span_l0_R_ok t n m v a k i n1 m1 s0 s1) (by
    unfold span_l0_R
    have hT : (t.2.2.2.1.getD (Int.toNat i) tIns.dflt).1 = 5 → i < a → 0 ≤ (t.2.2.2.1.getD (Int.toNat i) tIns.dflt).2.1 ∧ (t.2.2.2.1.getD (Int.toNat i) tIns.dflt).2.1 < i := fun h q => hd.tru i (by omega) (by omega) h
    refine g_iteD (fun h0 => ?_) (fun h0 => ?_)
    · refine g_need (by omega) ?_
      refine g_need (by omega) ?_
      refine g_iteND (fun h1 => ?_) (fun h1 => ?_)
      · refine g_need (by first | (have := hT (by assumption) (by assumption); omega) | omega | exact ⟨rfl, lawArr⟩ | exact ⟨rfl, lawArr, by have := hm.small hL; omega⟩ | (rw [i64_iff]; omega) | (constructor <;> omega) | rfl | (simp; done)) ?_
        refine g_stop (RunN.keep [0, 1, 2, 3, 4] (true :: true :: true :: F2 (false :: true :: true :: F2 (true :: true :: F32 (F32 (F32 (F16 (false :: []))))))) (show ∀ k, k < 2 → ([0, 1, 2, 3, 4] : List Nat)[k]? = some k by decide) (by decide) rfl rfl ?_)
        have ht := span_l0 t n m v a k (i + 1) n1 m1 s0 s1 hd hr hk hl hL hv hm (by omega); rw [loopM_no (t := t) (v := v) (i := i) (by omega) (by unfold guardOf insV; rintro ⟨g1, g2, g3, g4, g5⟩; first | omega | (simp_all; done))]; exact ht
      · refine g_need (by omega) ?_
        refine g_need (by omega) ?_
        refine g_iteND (fun h2 => ?_) (fun h2 => ?_)
        · refine g_need (by first | (have := hT (by assumption) (by assumption); omega) | omega | exact ⟨rfl, lawArr⟩ | exact ⟨rfl, lawArr, by have := hm.small hL; omega⟩ | (rw [i64_iff]; omega) | (constructor <;> omega) | rfl | (simp; done)) ?_
          refine g_stop (RunN.keep [0, 1, 2, 3, 4] (true :: true :: true :: F2 (false :: true :: true :: F2 (true :: true :: F32 (F32 (F32 (F16 (false :: []))))))) (show ∀ k, k < 2 → ([0, 1, 2, 3, 4] : List Nat)[k]? = some k by decide) (by decide) rfl rfl ?_)
          have ht := span_l0 t n m v a k (i + 1) n1 m1 s0 s1 hd hr hk hl hL hv hm (by omega); rw [loopM_no (t := t) (v := v) (i := i) (by omega) (by unfold guardOf insV; rintro ⟨g1, g2, g3, g4, g5⟩; first | omega | (simp_all; done))]; exact ht
        · refine g_iteND (fun h3 => ?_) (fun h3 => ?_)
          · refine g_iteND (fun h4 => ?_) (fun h4 => ?_)
            · refine g_need (by first | (have := hT (by assumption) (by assumption); omega) | omega | exact ⟨rfl, lawArr⟩ | exact ⟨rfl, lawArr, by have := hm.small hL; omega⟩ | (rw [i64_iff]; omega) | (constructor <;> omega) | rfl | (simp; done)) ?_
              refine g_stop (RunN.keep [0, 1, 2, 3, 4] (true :: true :: true :: F2 (false :: true :: true :: F2 (true :: true :: F32 (F32 (F32 (F16 (false :: []))))))) (show ∀ k, k < 2 → ([0, 1, 2, 3, 4] : List Nat)[k]? = some k by decide) (by decide) rfl rfl ?_)
              have ht := span_l0 t n m v a k (i + 1) n1 m1 s0 s1 hd hr hk hl hL hv hm (by omega); rw [loopM_no (t := t) (v := v) (i := i) (by omega) (by unfold guardOf insV; rintro ⟨g1, g2, g3, g4, g5⟩; first | omega | (simp_all; done))]; exact ht
            · refine g_iteND (fun h5 => ?_) (fun h5 => ?_)
              · refine g_iteND (fun h6 => ?_) (fun h6 => ?_)
                · refine g_need (by first | (have := hT (by assumption) (by assumption); omega) | omega | exact ⟨rfl, lawArr⟩ | exact ⟨rfl, lawArr, by have := hm.small hL; omega⟩ | (rw [i64_iff]; omega) | (constructor <;> omega) | rfl | (simp; done)) ?_
                  refine g_stop (RunN.keep [0, 1, 2, 3, 4] (true :: true :: true :: F2 (false :: true :: true :: F2 (true :: true :: F32 (F32 (F32 (F16 (false :: []))))))) (show ∀ k, k < 2 → ([0, 1, 2, 3, 4] : List Nat)[k]? = some k by decide) (by decide) rfl rfl ?_)
                  have ht := span_l0 t n m v a k (i + 1) n1 m1 s0 s1 hd hr hk hl hL hv hm (by omega); rw [loopM_no (t := t) (v := v) (i := i) (by omega) (by unfold guardOf insV; rintro ⟨g1, g2, g3, g4, g5⟩; first | omega | (simp_all; done))]; exact ht
                · refine g_callH (AFunH.frameB [0, 1] (ints_fun t n1 m1 (t.2.2.2.1.getD (Int.toNat i) tIns.dflt).2.1 ⟨by omega, by omega⟩) rfl rfl rfl rfl rfl rfl rfl) ?_
                  refine g_iteN (fun h7 => ?_) (fun h7 => ?_)
                  · refine g_need (by first | (have := hT (by assumption) (by assumption); omega) | omega | exact ⟨rfl, lawArr⟩ | exact ⟨rfl, lawArr, by have := hm.small hL; omega⟩ | (rw [i64_iff]; omega) | (constructor <;> omega) | rfl | (simp; done)) ?_
                    refine g_stop (RunN.keep [0, 1, 2, 3, 4] (true :: true :: true :: F2 (false :: true :: true :: F2 (true :: true :: F32 (F32 (F32 (F16 (false :: []))))))) (show ∀ k, k < 2 → ([0, 1, 2, 3, 4] : List Nat)[k]? = some k by decide) (by decide) rfl rfl ?_)
                    have ht := span_l0 t n m v a k (i + 1) n1 m1 s0 s1 hd hr hk hl hL hv hm (by omega); rw [loopM_no (t := t) (v := v) (i := i) (by omega) (by unfold guardOf insV; rintro ⟨g1, g2, g3, g4, g5⟩; first | omega | (simp_all; done))]; exact ht
                  · refine g_stop (RunN.keep [0, 1, 2, 3, 4, 5, 6] (true :: true :: true :: F2 (false :: true :: true :: F2 (true :: true :: true :: true :: F32 (F32 (F32 (F8 (F4 (F2 (false :: []))))))))) (show ∀ k, k < 2 → ([0, 1, 2, 3, 4, 5, 6] : List Nat)[k]? = some k by decide) (by decide) rfl rfl ?_)
                    exact span_r13 t n m v a k i n1 m1 s0 s1 hd hr hk hl hL hv hm (by omega) (by unfold guardOf insV; refine ⟨by omega, by omega, by omega, by omega, ?_⟩; first | assumption | (simp_all; done)) (fun n2 m2 x0 x1 q => span_l0 t n m v a k (i + 1) n2 m2 x0 x1 hd hr hk hl hL hv q (by omega))
              · refine g_callH (AFunH.frameB [0, 1] (ints_fun t n1 m1 (t.2.2.2.1.getD (Int.toNat i) tIns.dflt).2.1 ⟨by omega, by omega⟩) rfl rfl rfl rfl rfl rfl rfl) ?_
                refine g_iteN (fun h6 => ?_) (fun h6 => ?_)
                · refine g_need (by first | (have := hT (by assumption) (by assumption); omega) | omega | exact ⟨rfl, lawArr⟩ | exact ⟨rfl, lawArr, by have := hm.small hL; omega⟩ | (rw [i64_iff]; omega) | (constructor <;> omega) | rfl | (simp; done)) ?_
                  refine g_stop (RunN.keep [0, 1, 2, 3, 4] (true :: true :: true :: F2 (false :: true :: true :: F2 (true :: true :: F32 (F32 (F32 (F16 (false :: []))))))) (show ∀ k, k < 2 → ([0, 1, 2, 3, 4] : List Nat)[k]? = some k by decide) (by decide) rfl rfl ?_)
                  have ht := span_l0 t n m v a k (i + 1) n1 m1 s0 s1 hd hr hk hl hL hv hm (by omega); rw [loopM_no (t := t) (v := v) (i := i) (by omega) (by unfold guardOf insV; rintro ⟨g1, g2, g3, g4, g5⟩; first | omega | (simp_all; done))]; exact ht
                · refine g_stop (RunN.keep [0, 1, 2, 3, 4, 5, 6] (true :: true :: true :: F2 (false :: true :: true :: F2 (true :: true :: true :: true :: F32 (F32 (F32 (F8 (F4 (F2 (false :: []))))))))) (show ∀ k, k < 2 → ([0, 1, 2, 3, 4, 5, 6] : List Nat)[k]? = some k by decide) (by decide) rfl rfl ?_)
                  exact span_r13 t n m v a k i n1 m1 s0 s1 hd hr hk hl hL hv hm (by omega) (by unfold guardOf insV; refine ⟨by omega, by omega, by omega, by omega, ?_⟩; first | assumption | (simp_all; done)) (fun n2 m2 x0 x1 q => span_l0 t n m v a k (i + 1) n2 m2 x0 x1 hd hr hk hl hL hv q (by omega))
          · refine g_iteND (fun h4 => ?_) (fun h4 => ?_)
            · refine g_iteND (fun h5 => ?_) (fun h5 => ?_)
              · refine g_need (by first | (have := hT (by assumption) (by assumption); omega) | omega | exact ⟨rfl, lawArr⟩ | exact ⟨rfl, lawArr, by have := hm.small hL; omega⟩ | (rw [i64_iff]; omega) | (constructor <;> omega) | rfl | (simp; done)) ?_
                refine g_stop (RunN.keep [0, 1, 2, 3, 4] (true :: true :: true :: F2 (false :: true :: true :: F2 (true :: true :: F32 (F32 (F32 (F16 (false :: []))))))) (show ∀ k, k < 2 → ([0, 1, 2, 3, 4] : List Nat)[k]? = some k by decide) (by decide) rfl rfl ?_)
                have ht := span_l0 t n m v a k (i + 1) n1 m1 s0 s1 hd hr hk hl hL hv hm (by omega); rw [loopM_no (t := t) (v := v) (i := i) (by omega) (by unfold guardOf insV; rintro ⟨g1, g2, g3, g4, g5⟩; first | omega | (simp_all; done))]; exact ht
              · refine g_callH (AFunH.frameB [0, 1] (ints_fun t n1 m1 (t.2.2.2.1.getD (Int.toNat i) tIns.dflt).2.1 ⟨by omega, by omega⟩) rfl rfl rfl rfl rfl rfl rfl) ?_
                refine g_iteN (fun h6 => ?_) (fun h6 => ?_)
                · refine g_need (by first | (have := hT (by assumption) (by assumption); omega) | omega | exact ⟨rfl, lawArr⟩ | exact ⟨rfl, lawArr, by have := hm.small hL; omega⟩ | (rw [i64_iff]; omega) | (constructor <;> omega) | rfl | (simp; done)) ?_
                  refine g_stop (RunN.keep [0, 1, 2, 3, 4] (true :: true :: true :: F2 (false :: true :: true :: F2 (true :: true :: F32 (F32 (F32 (F16 (false :: []))))))) (show ∀ k, k < 2 → ([0, 1, 2, 3, 4] : List Nat)[k]? = some k by decide) (by decide) rfl rfl ?_)
                  have ht := span_l0 t n m v a k (i + 1) n1 m1 s0 s1 hd hr hk hl hL hv hm (by omega); rw [loopM_no (t := t) (v := v) (i := i) (by omega) (by unfold guardOf insV; rintro ⟨g1, g2, g3, g4, g5⟩; first | omega | (simp_all; done))]; exact ht
                · refine g_stop (RunN.keep [0, 1, 2, 3, 4, 5, 6] (true :: true :: true :: F2 (false :: true :: true :: F2 (true :: true :: true :: true :: F32 (F32 (F32 (F8 (F4 (F2 (false :: []))))))))) (show ∀ k, k < 2 → ([0, 1, 2, 3, 4, 5, 6] : List Nat)[k]? = some k by decide) (by decide) rfl rfl ?_)
                  exact span_r13 t n m v a k i n1 m1 s0 s1 hd hr hk hl hL hv hm (by omega) (by unfold guardOf insV; refine ⟨by omega, by omega, by omega, by omega, ?_⟩; first | assumption | (simp_all; done)) (fun n2 m2 x0 x1 q => span_l0 t n m v a k (i + 1) n2 m2 x0 x1 hd hr hk hl hL hv q (by omega))
            · refine g_callH (AFunH.frameB [0, 1] (ints_fun t n1 m1 (t.2.2.2.1.getD (Int.toNat i) tIns.dflt).2.1 ⟨by omega, by omega⟩) rfl rfl rfl rfl rfl rfl rfl) ?_
              refine g_iteN (fun h5 => ?_) (fun h5 => ?_)
              · refine g_need (by first | (have := hT (by assumption) (by assumption); omega) | omega | exact ⟨rfl, lawArr⟩ | exact ⟨rfl, lawArr, by have := hm.small hL; omega⟩ | (rw [i64_iff]; omega) | (constructor <;> omega) | rfl | (simp; done)) ?_
                refine g_stop (RunN.keep [0, 1, 2, 3, 4] (true :: true :: true :: F2 (false :: true :: true :: F2 (true :: true :: F32 (F32 (F32 (F16 (false :: []))))))) (show ∀ k, k < 2 → ([0, 1, 2, 3, 4] : List Nat)[k]? = some k by decide) (by decide) rfl rfl ?_)
                have ht := span_l0 t n m v a k (i + 1) n1 m1 s0 s1 hd hr hk hl hL hv hm (by omega); rw [loopM_no (t := t) (v := v) (i := i) (by omega) (by unfold guardOf insV; rintro ⟨g1, g2, g3, g4, g5⟩; first | omega | (simp_all; done))]; exact ht
              · refine g_stop (RunN.keep [0, 1, 2, 3, 4, 5, 6] (true :: true :: true :: F2 (false :: true :: true :: F2 (true :: true :: true :: true :: F32 (F32 (F32 (F8 (F4 (F2 (false :: []))))))))) (show ∀ k, k < 2 → ([0, 1, 2, 3, 4, 5, 6] : List Nat)[k]? = some k by decide) (by decide) rfl rfl ?_)
                exact span_r13 t n m v a k i n1 m1 s0 s1 hd hr hk hl hL hv hm (by omega) (by unfold guardOf insV; refine ⟨by omega, by omega, by omega, by omega, ?_⟩; first | assumption | (simp_all; done)) (fun n2 m2 x0 x1 q => span_l0 t n m v a k (i + 1) n2 m2 x0 x1 hd hr hk hl hL hv q (by omega))
    · refine g_need (by first | (have := hT (by assumption) (by assumption); omega) | omega | exact ⟨rfl, lawArr⟩ | exact ⟨rfl, lawArr, by have := hm.small hL; omega⟩ | (rw [i64_iff]; omega) | (constructor <;> omega) | rfl | (simp; done)) ?_
      refine g_need (by first | (have := hT (by assumption) (by assumption); omega) | omega | exact ⟨rfl, lawArr⟩ | exact ⟨rfl, lawArr, by have := hm.small hL; omega⟩ | (rw [i64_iff]; omega) | (constructor <;> omega) | rfl | (simp; done)) ?_
      rw [show (a - i).toNat = 0 by omega]
      refine g_fin ?_
      exact g_end [0, 1] (show ∀ k, k < 2 → ([0, 1] : List Nat)[k]? = some k by decide) (by decide) (⟨⟨rfl, rfl⟩, ⟨rfl, rfl⟩, trivial⟩) ⟨leB.refl _, rfl, trivial⟩
    )
  termination_by (a - i).toNat
  decreasing_by all_goals omega
theorem span_fun (t : ETrace) (n : Nat) (m : EVal → Option EVal) (v : Int) (a : Int) (k : Nat) (hd : DomC t) (hr : SpanC t k a) (hk : a.toNat ≤ k) (hl : a ≤ (t.2.2.2.1.length : Int)) (hL : t.2.2.2.1.length ≤ 300) (hv : 0 ≤ v ∧ v < a) (hm : KeptOk t (n, m)) : AFunH Tryd.prog 62 [.c (.ptr 0 0 0 0), .c (.int .i64 v), .c (.int .i64 a)] [.cells 128 (Ty.enc tTrace t ++ [.map 1]), .map 164 tVal tVal n m] (.agg (Ty.enc tVal ((spanM t (k + 1) v a (n, m)).1))) [.cells 128 (Ty.enc tTrace t ++ [.map 1]), .map 164 tVal tVal (spanM t (k + 1) v a (n, m)).2.1 (spanM t (k + 1) v a (n, m)).2.2] (List.range 2) :=
  AFunH.ofL (oc107 k) span_lv 3000 Tryd.func62 mixed rfl (by decide) (Nat.le_of_ble_eq_true rfl) rfl rfl (Nat.le_of_ble_eq_true rfl) _ (span_T_ok t n m v a k) fun hF => by
    unfold span_T
    refine g_need (by first | omega | exact ⟨rfl, lawArr⟩ | exact ⟨rfl, lawArr, by have := hm.small hL; omega⟩ | (rw [i64_iff]; omega) | (constructor <;> omega) | rfl | (simp; done)) ?_
    refine g_need (by first | omega | exact ⟨rfl, lawArr⟩ | exact ⟨rfl, lawArr, by have := hm.small hL; omega⟩ | (rw [i64_iff]; omega) | (constructor <;> omega) | rfl | (simp; done)) ?_
    refine g_need (by first | omega | exact ⟨rfl, lawArr⟩ | exact ⟨rfl, lawArr, by have := hm.small hL; omega⟩ | (rw [i64_iff]; omega) | (constructor <;> omega) | rfl | (simp; done)) ?_
    refine g_ite (fun h0 => ?_) (fun h0 => ?_)
    · rw [spanM_hit (show (m (v, a)).isSome = true from h0)]
      refine g_fin ?_
      exact g_end [0, 1] (show ∀ k, k < 2 → ([0, 1] : List Nat)[k]? = some k by decide) (by decide) (⟨⟨rfl, rfl⟩, ⟨rfl, rfl⟩, trivial⟩) ⟨leB.refl _, rfl, trivial⟩
    · refine g_callH (AFunH.frameB [0, 1] (itself_fun t n m v k a hd hr hk hl hm ⟨by omega, by omega⟩) rfl rfl rfl rfl rfl rfl rfl) ?_
      refine g_need (by first | omega | exact ⟨rfl, lawArr⟩ | exact ⟨rfl, lawArr, by have := hm.small hL; omega⟩ | (rw [i64_iff]; omega) | (constructor <;> omega) | rfl | (simp; done)) ?_
      refine g_stop (RunN.keep [0, 1, 2, 3, 5] (true :: true :: true :: F2 (false :: true :: true :: F2 (true :: true :: F32 (F32 (F32 (F16 (false :: []))))))) (show ∀ k, k < 2 → ([0, 1, 2, 3, 5] : List Nat)[k]? = some k by decide) (by decide) rfl rfl ?_)
      have ht := span_l0 t n m v a k (v + 1) (itselfM (spanM t k) t v (n, m)).2.1 (itselfM (spanM t k) t v (n, m)).2.2 (itselfM (spanM t k) t v (n, m)).1.1 (itselfM (spanM t k) t v (n, m)).1.2 hd hr hk hl hL hv ((itselfM_rel (V := fun (x : EMem) (_ : Unit) => KeptOk t x) (SameX.refl t) hd.toDomT (spanM_rel hd.toDomT hk hl) (by omega) (by omega) (by omega) hm (m' := ())).2) (by omega); rw [spanM_miss (show (m (v, a)).isSome = false from h0)]; exact ht

theorem span_all {t : ETrace} (hd : DomC t) (hL : t.2.2.2.1.length ≤ 300) : ∀ (k : Nat) (v a : Int) (n : Nat) (m : EVal → Option EVal), a.toNat < k → 0 ≤ v → v < a → a ≤ (t.2.2.2.1.length : Int) → KeptOk t (n, m) →
    AFunH Tryd.prog 62 [.c (.ptr 0 0 0 0), .c (.int .i64 v), .c (.int .i64 a)] [.cells 128 (Ty.enc tTrace t ++ [.map 1]), .map 164 tVal tVal n m] (.agg (Ty.enc tVal (spanM t k v a (n, m)).1)) [.cells 128 (Ty.enc tTrace t ++ [.map 1]), .map 164 tVal tVal (spanM t k v a (n, m)).2.1 (spanM t k v a (n, m)).2.2] (List.range 2)
  | 0, _, _, _, _, h, _, _, _, _ => absurd h (Nat.not_lt_zero _)
  | k + 1, v, a, n, m, h, h0, hv, hl, hm => span_fun t n m v a k hd (fun v' a' n' m' q0 q1 q2 q3 => span_all hd hL k v' a' n' m' (by omega) q0 q1 (by omega) q3) (by omega) hl hL ⟨h0, hv⟩ hm
theorem kept_nil (t : ETrace) : KeptOk t (0, fun _ => none) := ⟨fun v a s h => (by cases h), Nat.zero_le _⟩
end Go.Proofs.YtefkifdhjabdiaaDoor
