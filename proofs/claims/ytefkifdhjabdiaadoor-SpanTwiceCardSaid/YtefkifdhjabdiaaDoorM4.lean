/- What the laws' texts lean on, part 5: lemmas and the contracts of functions. No condition. -/
import Derived.Test.YtefkifdhjabdiaaDoorM3
import Derived.Test.YtefkifdhjabdiaaDoorM1
import Derived.Test.YtefkifdhjabdiaaDoorM2
namespace Go.Proofs.YtefkifdhjabdiaaDoor
set_option maxHeartbeats 4000000
set_option linter.unusedVariables false
set_option linter.unusedSimpArgs false
set_option maxRecDepth 100000
noncomputable def oc106 (k : Nat) : Orc where
 pure := fun f args => match f, args with
  | 127, [] => some (.agg (Ty.enc tVal ((-2147483648, 2147483647))))
  | 128, [a0] => match dA tI a0 with
   | some x0 => some (.c (.int .i64 (cutN x0)))
   | _ => none
  | _, _ => none
 heap := fun f args H => match f, args with
  | 62, [.one (.c (.ptr b0 0 0 0)), a1, a2] => match cellsAs 128 H[b0]? with
   | some [c0_0_0, c0_0_1, c0_0_2, c0_0_3, c0_0_4, c0_0_5, c0_0_6, c0_0_7, c0_0_8, c0_0_9, c0_0_10, c0_0_11, c0_0_12, .map b1] => (match dA tI a1, dA tI a2, dCs tTrace [c0_0_0, c0_0_1, c0_0_2, c0_0_3, c0_0_4, c0_0_5, c0_0_6, c0_0_7, c0_0_8, c0_0_9, c0_0_10, c0_0_11, c0_0_12], mapAs 164 tVal tVal H[b1]? with
    | some x1, some x2, some y0_0, some (n1, y1) => hres [b0, b1] H (.agg (Ty.enc tVal ((spanM y0_0 k x1 x2 (n1, y1)).1))) [.cells 128 [.int .i64 y0_0.1, .int .i64 y0_0.2.1, .int .i64 y0_0.2.2.1, .ro tIns y0_0.2.2.2.1, .ro tExit y0_0.2.2.2.2.1, .int .i64 y0_0.2.2.2.2.2.1.1, .int .i64 y0_0.2.2.2.2.2.1.2.1, .ro tVal y0_0.2.2.2.2.2.1.2.2.1, .ro tMake y0_0.2.2.2.2.2.1.2.2.2, .int .i64 y0_0.2.2.2.2.2.2.1, .int .i64 y0_0.2.2.2.2.2.2.2.1, .ro tVal y0_0.2.2.2.2.2.2.2.2.1, .ro tMake y0_0.2.2.2.2.2.2.2.2.2, .map 1], .map 164 tVal tVal (spanM y0_0 k x1 x2 (n1, y1)).2.1 (spanM y0_0 k x1 x2 (n1, y1)).2.2]
    | _, _, _, _ => none)
   | _ => none
  | 96, [.one (.c (.ptr b0 0 0 0)), a1] => match cellsAs 128 H[b0]? with
   | some [c0_0_0, c0_0_1, c0_0_2, c0_0_3, c0_0_4, c0_0_5, c0_0_6, c0_0_7, c0_0_8, c0_0_9, c0_0_10, c0_0_11, c0_0_12, .map b1] => (match dA tI a1, dCs tTrace [c0_0_0, c0_0_1, c0_0_2, c0_0_3, c0_0_4, c0_0_5, c0_0_6, c0_0_7, c0_0_8, c0_0_9, c0_0_10, c0_0_11, c0_0_12], mapAs 164 tVal tVal H[b1]? with
    | some x1, some y0_0, some (n1, y1) => hres [b0, b1] H (.c (.bool (intsF y0_0 x1))) [.cells 128 [.int .i64 y0_0.1, .int .i64 y0_0.2.1, .int .i64 y0_0.2.2.1, .ro tIns y0_0.2.2.2.1, .ro tExit y0_0.2.2.2.2.1, .int .i64 y0_0.2.2.2.2.2.1.1, .int .i64 y0_0.2.2.2.2.2.1.2.1, .ro tVal y0_0.2.2.2.2.2.1.2.2.1, .ro tMake y0_0.2.2.2.2.2.1.2.2.2, .int .i64 y0_0.2.2.2.2.2.2.1, .int .i64 y0_0.2.2.2.2.2.2.2.1, .ro tVal y0_0.2.2.2.2.2.2.2.2.1, .ro tMake y0_0.2.2.2.2.2.2.2.2.2, .map 1], .map 164 tVal tVal n1 y1]
    | _, _, _ => none)
   | _ => none
  | 101, [.one (.c (.ptr b0 0 0 0)), a1] => match cellsAs 128 H[b0]? with
   | some [c0_0_0, c0_0_1, c0_0_2, c0_0_3, c0_0_4, c0_0_5, c0_0_6, c0_0_7, c0_0_8, c0_0_9, c0_0_10, c0_0_11, c0_0_12, .map b1] => (match dA tI a1, dCs tTrace [c0_0_0, c0_0_1, c0_0_2, c0_0_3, c0_0_4, c0_0_5, c0_0_6, c0_0_7, c0_0_8, c0_0_9, c0_0_10, c0_0_11, c0_0_12], mapAs 164 tVal tVal H[b1]? with
    | some x1, some y0_0, some (n1, y1) => hres [b0, b1] H (.tup [.agg (Ty.enc tVal ((reckM (spanM y0_0 k) y0_0 x1 (n1, y1)).1.1)), .c (.bool ((reckM (spanM y0_0 k) y0_0 x1 (n1, y1)).1.2))]) [.cells 128 [.int .i64 y0_0.1, .int .i64 y0_0.2.1, .int .i64 y0_0.2.2.1, .ro tIns y0_0.2.2.2.1, .ro tExit y0_0.2.2.2.2.1, .int .i64 y0_0.2.2.2.2.2.1.1, .int .i64 y0_0.2.2.2.2.2.1.2.1, .ro tVal y0_0.2.2.2.2.2.1.2.2.1, .ro tMake y0_0.2.2.2.2.2.1.2.2.2, .int .i64 y0_0.2.2.2.2.2.2.1, .int .i64 y0_0.2.2.2.2.2.2.2.1, .ro tVal y0_0.2.2.2.2.2.2.2.2.1, .ro tMake y0_0.2.2.2.2.2.2.2.2.2, .map 1], .map 164 tVal tVal (reckM (spanM y0_0 k) y0_0 x1 (n1, y1)).2.1 (reckM (spanM y0_0 k) y0_0 x1 (n1, y1)).2.2]
    | _, _, _ => none)
   | _ => none
  | _, _ => none
def itself_lv : LV := ⟨(true :: true :: F2 (true :: true :: F32 (F32 (F16 (F8 (false :: [])))))), [4, 11]⟩
noncomputable def itself_T (t : ETrace) (n : Nat) (m : EVal → Option EVal) (v : Int) (k : Nat) : Tree :=
 .need ((0 : Int) ≤ v ∧ (v : Int) < (t.2.2.2.1.length : Int)) <|
 .need ((Int.toNat v) < t.2.2.2.1.length) <|
 .ite (decide ((xV t v).1 = 2))
 (.ite (decide ((xV t v).2.2.2.2.2.2.1 = 2))
  (.ret (.agg [.int .i64 (xV t v).2.2.2.2.2.2.2, .int .i64 (xV t v).2.2.2.2.2.2.2]) [.cells 128 (Ty.enc tTrace t ++ [.map 1]), .map 164 tVal tVal n m, .cells 130 [.int .i64 (xV t v).2.2.2.2.2.2.2, .int .i64 (xV t v).2.2.2.2.2.2.2], .cells 46 (Ty.enc tIns (xV t v))])
  (.stop (rg (bodyOf Tryd.f95) 4) (.c (.ptr 0 0 0 0) :: .c (.int .i64 v) :: J2 (.c (.ptr 2 0 0 0) :: .c (.ptr 3 0 0 0) :: J32 (J32 (J16 (J8 (.junk :: [])))))) [.cells 128 (Ty.enc tTrace t ++ [.map 1]), .map 164 tVal tVal n m, .cells 130 [.int .i64 0, .int .i64 0], .cells 46 (Ty.enc tIns (xV t v))]))
 (.stop (rg (bodyOf Tryd.f95) 4) (.c (.ptr 0 0 0 0) :: .c (.int .i64 v) :: J2 (.c (.ptr 2 0 0 0) :: .c (.ptr 3 0 0 0) :: J32 (J32 (J16 (J8 (.junk :: [])))))) [.cells 128 (Ty.enc tTrace t ++ [.map 1]), .map 164 tVal tVal n m, .cells 130 [.int .i64 0, .int .i64 0], .cells 46 (Ty.enc tIns (xV t v))])
theorem itself_T_ok (t : ETrace) (n : Nat) (m : EVal → Option EVal) (v : Int) (k : Nat) : aRun Tryd.prog (oc106 k) Tryd.f95 itself_lv 3000 [.code (bodyOf Tryd.f95)] ([.c (.ptr 0 0 0 0), .c (.int .i64 v)] ++ List.replicate (Func.ntmps Tryd.f95 - 2) .junk) [.cells 128 (Ty.enc tTrace t ++ [.map 1]), .map 164 tVal tVal n m] = itself_T t n m v k := by kernel_rfl
abbrev bDb2 : List CV := [.int .i64 (-2147483648, 2147483647).1, .int .i64 (-2147483648, 2147483647).2]
noncomputable def itself_r4_R (t : ETrace) (n : Nat) (m : EVal → Option EVal) (v : Int) (k : Nat) : Tree :=
 .ite (decide ((xV t v).1 = 15))
 (.ret (.agg [.int .i64 0, .int .i64 600]) [.cells 128 (Ty.enc tTrace t ++ [.map 1]), .map 164 tVal tVal n m, .cells 130 [.int .i64 0, .int .i64 600], .cells 46 (Ty.enc tIns (xV t v))])
 (.ite ((!(decide ((xV t v).1 = 7))))
  (.call 127 [] false (.agg bDb2) <|
  .ret (.agg bDb2) [.cells 128 (Ty.enc tTrace t ++ [.map 1]), .map 164 tVal tVal n m, .cells 130 [.int .i64 (-2147483648, 2147483647).1, .int .i64 (-2147483648, 2147483647).2], .cells 46 (Ty.enc tIns (xV t v))])
  (.callH 96 [.c (.ptr 0 0 0 0), .c (.int .i64 v)] [.cells 128 (Ty.enc tTrace t ++ [.map 1]), .map 164 tVal tVal n m, .cells 130 [.int .i64 0, .int .i64 0], .cells 46 (Ty.enc tIns (xV t v))] (.c (.bool (intsF t v))) [.cells 128 (Ty.enc tTrace t ++ [.map 1]), .map 164 tVal tVal n m, .cells 130 [.int .i64 0, .int .i64 0], .cells 46 (Ty.enc tIns (xV t v))] [0, 1] <|
  .ite ((!(intsF t v)))
  (.call 127 [] false (.agg bDb2) <|
   .ret (.agg bDb2) [.cells 128 (Ty.enc tTrace t ++ [.map 1]), .map 164 tVal tVal n m, .cells 130 [.int .i64 (-2147483648, 2147483647).1, .int .i64 (-2147483648, 2147483647).2], .cells 46 (Ty.enc tIns (xV t v))])
  (.callH 101 [.c (.ptr 0 0 0 0), .c (.int .i64 v)] [.cells 128 (Ty.enc tTrace t ++ [.map 1]), .map 164 tVal tVal n m, .cells 130 [.int .i64 0, .int .i64 0], .cells 46 (Ty.enc tIns (xV t v))] (.tup [.agg [.int .i64 (reckM (spanM t k) t v (n, m)).1.1.1, .int .i64 (reckM (spanM t k) t v (n, m)).1.1.2], .c (.bool (reckM (spanM t k) t v (n, m)).1.2)]) [.cells 128 (Ty.enc tTrace t ++ [.map 1]), .map 164 tVal tVal (reckM (spanM t k) t v (n, m)).2.1 (reckM (spanM t k) t v (n, m)).2.2, .cells 130 [.int .i64 0, .int .i64 0], .cells 46 (Ty.enc tIns (xV t v))] [0, 1] <|
   .ite ((reckM (spanM t k) t v (n, m)).1.2)
   (.call 128 [.c (.int .i64 (reckM (spanM t k) t v (n, m)).1.1.1)] false (.c (.int .i64 (cutN (reckM (spanM t k) t v (n, m)).1.1.1))) <|
   .call 128 [.c (.int .i64 (reckM (spanM t k) t v (n, m)).1.1.2)] false (.c (.int .i64 (cutN (reckM (spanM t k) t v (n, m)).1.1.2))) <|
   .ret (.agg [.int .i64 (cutN (reckM (spanM t k) t v (n, m)).1.1.1), .int .i64 (cutN (reckM (spanM t k) t v (n, m)).1.1.2)]) [.cells 128 (Ty.enc tTrace t ++ [.map 1]), .map 164 tVal tVal (reckM (spanM t k) t v (n, m)).2.1 (reckM (spanM t k) t v (n, m)).2.2, .cells 130 [.int .i64 (cutN (reckM (spanM t k) t v (n, m)).1.1.1), .int .i64 (cutN (reckM (spanM t k) t v (n, m)).1.1.2)], .cells 46 (Ty.enc tIns (xV t v)), .cells 130 [.int .i64 (reckM (spanM t k) t v (n, m)).1.1.1, .int .i64 (reckM (spanM t k) t v (n, m)).1.1.2]])
   (.stop (rg (bodyOf Tryd.f95) 11) (.c (.ptr 0 0 0 0) :: .c (.int .i64 v) :: J2 (.c (.ptr 2 0 0 0) :: .c (.ptr 3 0 0 0) :: J32 (J32 (J16 (J8 (.junk :: [])))))) [.cells 128 (Ty.enc tTrace t ++ [.map 1]), .map 164 tVal tVal (reckM (spanM t k) t v (n, m)).2.1 (reckM (spanM t k) t v (n, m)).2.2, .cells 130 [.int .i64 0, .int .i64 0], .cells 46 (Ty.enc tIns (xV t v)), .cells 130 [.int .i64 (reckM (spanM t k) t v (n, m)).1.1.1, .int .i64 (reckM (spanM t k) t v (n, m)).1.1.2]]))))
theorem itself_r4_R_ok (t : ETrace) (n : Nat) (m : EVal → Option EVal) (v : Int) (k : Nat) : aRound Tryd.prog (oc106 k) Tryd.f95 itself_lv 3000 (rg (bodyOf Tryd.f95) 4) (.c (.ptr 0 0 0 0) :: .c (.int .i64 v) :: J2 (.c (.ptr 2 0 0 0) :: .c (.ptr 3 0 0 0) :: J32 (J32 (J16 (J8 (.junk :: [])))))) [.cells 128 (Ty.enc tTrace t ++ [.map 1]), .map 164 tVal tVal n m, .cells 130 [.int .i64 0, .int .i64 0], .cells 46 (Ty.enc tIns (xV t v))] = itself_r4_R t n m v k := by kernel_rfl
noncomputable def itself_r11_R (t : ETrace) (n : Nat) (m : EVal → Option EVal) (v : Int) (k : Nat) (n1 : Nat) (m1 : EVal → Option EVal) : Tree :=
 .callH 62 [.c (.ptr 0 0 0 0), .c (.int .i64 (xV t v).2.2.1), .c (.int .i64 v)] [.cells 128 (Ty.enc tTrace t ++ [.map 1]), .map 164 tVal tVal n1 m1, .cells 130 [.int .i64 0, .int .i64 0], .cells 46 (Ty.enc tIns (xV t v))] (.agg [.int .i64 (spanM t k (xV t v).2.2.1 v (n1, m1)).1.1, .int .i64 (spanM t k (xV t v).2.2.1 v (n1, m1)).1.2]) [.cells 128 (Ty.enc tTrace t ++ [.map 1]), .map 164 tVal tVal (spanM t k (xV t v).2.2.1 v (n1, m1)).2.1 (spanM t k (xV t v).2.2.1 v (n1, m1)).2.2, .cells 130 [.int .i64 0, .int .i64 0], .cells 46 (Ty.enc tIns (xV t v))] [0, 1] <|
 .ite (decide ((xV t v).2.2.2.2.1 = 7))
 (.ite (decide ((1 : Int) ≤ (spanM t k (xV t v).2.2.1 v (n1, m1)).1.1))
  (.need (inR .i64 ((spanM t k (xV t v).2.2.1 v (n1, m1)).1.2 - 1)) <|
  .callH 62 [.c (.ptr 0 0 0 0), .c (.int .i64 (xV t v).2.1), .c (.int .i64 v)] [.cells 128 (Ty.enc tTrace t ++ [.map 1]), .map 164 tVal tVal (spanM t k (xV t v).2.2.1 v (n1, m1)).2.1 (spanM t k (xV t v).2.2.1 v (n1, m1)).2.2, .cells 130 [.int .i64 0, .int .i64 0], .cells 46 (Ty.enc tIns (xV t v)), .cells 130 [.int .i64 (spanM t k (xV t v).2.2.1 v (n1, m1)).1.1, .int .i64 (spanM t k (xV t v).2.2.1 v (n1, m1)).1.2]] (.agg [.int .i64 (spanM t k (xV t v).2.1 v (spanM t k (xV t v).2.2.1 v (n1, m1)).2).1.1, .int .i64 (spanM t k (xV t v).2.1 v (spanM t k (xV t v).2.2.1 v (n1, m1)).2).1.2]) [.cells 128 (Ty.enc tTrace t ++ [.map 1]), .map 164 tVal tVal (spanM t k (xV t v).2.1 v (spanM t k (xV t v).2.2.1 v (n1, m1)).2).2.1 (spanM t k (xV t v).2.1 v (spanM t k (xV t v).2.2.1 v (n1, m1)).2).2.2, .cells 130 [.int .i64 0, .int .i64 0], .cells 46 (Ty.enc tIns (xV t v)), .cells 130 [.int .i64 (spanM t k (xV t v).2.2.1 v (n1, m1)).1.1, .int .i64 (spanM t k (xV t v).2.2.1 v (n1, m1)).1.2]] [0, 1] <|
  .ite (decide ((0 : Int) ≤ (spanM t k (xV t v).2.1 v (spanM t k (xV t v).2.2.1 v (n1, m1)).2).1.1))
  (.ret (.agg [.int .i64 0, .int .i64 ((spanM t k (xV t v).2.2.1 v (n1, m1)).1.2 - 1)]) [.cells 128 (Ty.enc tTrace t ++ [.map 1]), .map 164 tVal tVal (spanM t k (xV t v).2.1 v (spanM t k (xV t v).2.2.1 v (n1, m1)).2).2.1 (spanM t k (xV t v).2.1 v (spanM t k (xV t v).2.2.1 v (n1, m1)).2).2.2, .cells 130 [.int .i64 0, .int .i64 ((spanM t k (xV t v).2.2.1 v (n1, m1)).1.2 - 1)], .cells 46 (Ty.enc tIns (xV t v)), .cells 130 [.int .i64 (spanM t k (xV t v).2.2.1 v (n1, m1)).1.1, .int .i64 (spanM t k (xV t v).2.2.1 v (n1, m1)).1.2]])
  (.need (inR .i64 (0 - ((spanM t k (xV t v).2.2.1 v (n1, m1)).1.2 - 1))) <|
   .ret (.agg [.int .i64 (0 - ((spanM t k (xV t v).2.2.1 v (n1, m1)).1.2 - 1)), .int .i64 ((spanM t k (xV t v).2.2.1 v (n1, m1)).1.2 - 1)]) [.cells 128 (Ty.enc tTrace t ++ [.map 1]), .map 164 tVal tVal (spanM t k (xV t v).2.1 v (spanM t k (xV t v).2.2.1 v (n1, m1)).2).2.1 (spanM t k (xV t v).2.1 v (spanM t k (xV t v).2.2.1 v (n1, m1)).2).2.2, .cells 130 [.int .i64 (0 - ((spanM t k (xV t v).2.2.1 v (n1, m1)).1.2 - 1)), .int .i64 ((spanM t k (xV t v).2.2.1 v (n1, m1)).1.2 - 1)], .cells 46 (Ty.enc tIns (xV t v)), .cells 130 [.int .i64 (spanM t k (xV t v).2.2.1 v (n1, m1)).1.1, .int .i64 (spanM t k (xV t v).2.2.1 v (n1, m1)).1.2]]))
  (.call 127 [] false (.agg bDb2) <|
  .ret (.agg bDb2) [.cells 128 (Ty.enc tTrace t ++ [.map 1]), .map 164 tVal tVal (spanM t k (xV t v).2.2.1 v (n1, m1)).2.1 (spanM t k (xV t v).2.2.1 v (n1, m1)).2.2, .cells 130 [.int .i64 (-2147483648, 2147483647).1, .int .i64 (-2147483648, 2147483647).2], .cells 46 (Ty.enc tIns (xV t v)), .cells 130 [.int .i64 (spanM t k (xV t v).2.2.1 v (n1, m1)).1.1, .int .i64 (spanM t k (xV t v).2.2.1 v (n1, m1)).1.2]]))
 (.call 127 [] false (.agg bDb2) <|
  .ret (.agg bDb2) [.cells 128 (Ty.enc tTrace t ++ [.map 1]), .map 164 tVal tVal (spanM t k (xV t v).2.2.1 v (n1, m1)).2.1 (spanM t k (xV t v).2.2.1 v (n1, m1)).2.2, .cells 130 [.int .i64 (-2147483648, 2147483647).1, .int .i64 (-2147483648, 2147483647).2], .cells 46 (Ty.enc tIns (xV t v)), .cells 130 [.int .i64 (spanM t k (xV t v).2.2.1 v (n1, m1)).1.1, .int .i64 (spanM t k (xV t v).2.2.1 v (n1, m1)).1.2]])
theorem itself_r11_R_ok (t : ETrace) (n : Nat) (m : EVal → Option EVal) (v : Int) (k : Nat) (n1 : Nat) (m1 : EVal → Option EVal) : aRound Tryd.prog (oc106 k) Tryd.f95 itself_lv 3000 (rg (bodyOf Tryd.f95) 11) (.c (.ptr 0 0 0 0) :: .c (.int .i64 v) :: J2 (.c (.ptr 2 0 0 0) :: .c (.ptr 3 0 0 0) :: J32 (J32 (J16 (J8 (.junk :: [])))))) [.cells 128 (Ty.enc tTrace t ++ [.map 1]), .map 164 tVal tVal n1 m1, .cells 130 [.int .i64 0, .int .i64 0], .cells 46 (Ty.enc tIns (xV t v))] = itself_r11_R t n m v k n1 m1 := by kernel_rfl
theorem itself_r11 (t : ETrace) (n : Nat) (m : EVal → Option EVal) (v : Int) (k : Nat) (n1 : Nat) (m1 : EVal → Option EVal) (bd : Int) (hd : DomC t) (hr : SpanC t k bd) (hk : bd.toNat ≤ k) (hbl : bd ≤ (t.2.2.2.1.length : Int)) (hm : KeptOk t (n1, m1)) (hi : 0 ≤ v ∧ v < bd) (ho : (xV t v).1 = 7) : RunN 2 Tryd.prog 95 (finQ Tryd.prog 2 (.agg (Ty.enc tVal ((modM (spanM t k) t v (n1, m1)).1))) [.cells 128 (Ty.enc tTrace t ++ [.map 1]), .map 164 tVal tVal (modM (spanM t k) t v (n1, m1)).2.1 (modM (spanM t k) t v (n1, m1)).2.2]) (rg (bodyOf Tryd.f95) 11) (.c (.ptr 0 0 0 0) :: .c (.int .i64 v) :: J2 (.c (.ptr 2 0 0 0) :: .c (.ptr 3 0 0 0) :: J32 (J32 (J16 (J8 (.junk :: [])))))) [.cells 128 (Ty.enc tTrace t ++ [.map 1]), .map 164 tVal tVal n1 m1, .cells 130 [.int .i64 0, .int .i64 0], .cells 46 (Ty.enc tIns (xV t v))] :=
 Run.roundA (oc106 k) itself_lv 3000 Tryd.func95 mixed (itself_r11_R t n m v k n1 m1) (itself_r11_R_ok t n m v k n1 m1) (by
  unfold itself_r11_R
  obtain ⟨a0, a1, b0, b1⟩ : 0 ≤ (xV t v).2.1 ∧ (xV t v).2.1 < v ∧ 0 ≤ (xV t v).2.2.1 ∧ (xV t v).2.2.1 < v := hd.bin v (by omega) (by omega) ho
  obtain ⟨eB, kB, _⟩ := spanM_ok hd.toDomT k (xV t v).2.2.1 v (n1, m1) (by omega) b0 b1 (by omega) hm
  have iB : InB (spanM t k (xV t v).2.2.1 v (n1, m1)).1 := by rw [eB]; exact spanF_in hd b0 b1 (by omega)
  unfold InB at iB
  refine g_callH (AFunH.frameB [0, 1] (hr (xV t v).2.2.1 v n1 m1 (by omega) (by omega) (by omega) (by first | exact hm | exact kA | exact kB | exact kC | exact kD)) rfl rfl rfl rfl rfl rfl rfl) ?_
  refine g_iteD (fun h0 => ?_) (fun h0 => ?_)
  ·refine g_iteD (fun h1 => ?_) (fun h1 => ?_)
   ·refine g_need (by first | (rw [i64_iff]; omega) | omega | (constructor <;> omega) | (rw [i64_iff]; omega) | (rw [i64_iff]; constructor <;> omega) | rfl | (simp; done)) ?_
    refine g_callH (AFunH.frameB [0, 1] (hr (xV t v).2.1 v (spanM t k (xV t v).2.2.1 v (n1, m1)).2.1 (spanM t k (xV t v).2.2.1 v (n1, m1)).2.2 (by omega) (by omega) (by omega) (by first | exact hm | exact kA | exact kB | exact kC | exact kD)) rfl rfl rfl rfl rfl rfl rfl) ?_
    refine g_iteD (fun h2 => ?_) (fun h2 => ?_)
    ·first | rw [modM_1 (t := t) (v := v) (rec := spanM t k) (m := (n1, m1)) h0 h1 h2] | rw [modM_2 (t := t) (v := v) (rec := spanM t k) (m := (n1, m1)) h0 h1 h2] | rw [modM_3 (t := t) (v := v) (rec := spanM t k) (m := (n1, m1)) h0 h1] | rw [modM_4 (t := t) (v := v) (rec := spanM t k) (m := (n1, m1)) h0]
     refine g_fin ?_
     exact g_end [0, 1] (show ∀ k, k < 2 → ([0, 1] : List Nat)[k]? = some k by decide) (by decide) (⟨⟨rfl, rfl⟩, ⟨rfl, rfl⟩, trivial⟩) ⟨leB.refl _, rfl, trivial⟩
    ·refine g_need (by first | (rw [i64_iff]; omega) | omega | (constructor <;> omega) | (rw [i64_iff]; omega) | (rw [i64_iff]; constructor <;> omega) | rfl | (simp; done)) ?_
     first | rw [modM_1 (t := t) (v := v) (rec := spanM t k) (m := (n1, m1)) h0 h1 h2] | rw [modM_2 (t := t) (v := v) (rec := spanM t k) (m := (n1, m1)) h0 h1 h2] | rw [modM_3 (t := t) (v := v) (rec := spanM t k) (m := (n1, m1)) h0 h1] | rw [modM_4 (t := t) (v := v) (rec := spanM t k) (m := (n1, m1)) h0]
     refine g_fin ?_
     exact g_end [0, 1] (show ∀ k, k < 2 → ([0, 1] : List Nat)[k]? = some k by decide) (by decide) (⟨⟨rfl, rfl⟩, ⟨rfl, rfl⟩, trivial⟩) ⟨leB.refl _, rfl, trivial⟩
   ·refine g_call (spanall_fun) (fun h => nomatch h) ?_
    first | rw [modM_1 (t := t) (v := v) (rec := spanM t k) (m := (n1, m1)) h0 h1 h2] | rw [modM_2 (t := t) (v := v) (rec := spanM t k) (m := (n1, m1)) h0 h1 h2] | rw [modM_3 (t := t) (v := v) (rec := spanM t k) (m := (n1, m1)) h0 h1] | rw [modM_4 (t := t) (v := v) (rec := spanM t k) (m := (n1, m1)) h0]
    refine g_fin ?_
    exact g_end [0, 1] (show ∀ k, k < 2 → ([0, 1] : List Nat)[k]? = some k by decide) (by decide) (⟨⟨rfl, rfl⟩, ⟨rfl, rfl⟩, trivial⟩) ⟨leB.refl _, rfl, trivial⟩
  ·refine g_call (spanall_fun) (fun h => nomatch h) ?_
   first | rw [modM_1 (t := t) (v := v) (rec := spanM t k) (m := (n1, m1)) h0 h1 h2] | rw [modM_2 (t := t) (v := v) (rec := spanM t k) (m := (n1, m1)) h0 h1 h2] | rw [modM_3 (t := t) (v := v) (rec := spanM t k) (m := (n1, m1)) h0 h1] | rw [modM_4 (t := t) (v := v) (rec := spanM t k) (m := (n1, m1)) h0]
   refine g_fin ?_
   exact g_end [0, 1] (show ∀ k, k < 2 → ([0, 1] : List Nat)[k]? = some k by decide) (by decide) (⟨⟨rfl, rfl⟩, ⟨rfl, rfl⟩, trivial⟩) ⟨leB.refl _, rfl, trivial⟩
  )
theorem itself_r4 (t : ETrace) (n : Nat) (m : EVal → Option EVal) (v : Int) (k : Nat) (bd : Int) (hd : DomC t) (hr : SpanC t k bd) (hk : bd.toNat ≤ k) (hbl : bd ≤ (t.2.2.2.1.length : Int)) (hm : KeptOk t (n, m)) (hi : 0 ≤ v ∧ v < bd) (hc : ¬ ((xV t v).1 = 2 ∧ (xV t v).2.2.2.2.2.2.1 = 2))  : RunN 2 Tryd.prog 95 (finQ Tryd.prog 2 (.agg (Ty.enc tVal ((itselfM (spanM t k) t v (n, m)).1))) [.cells 128 (Ty.enc tTrace t ++ [.map 1]), .map 164 tVal tVal (itselfM (spanM t k) t v (n, m)).2.1 (itselfM (spanM t k) t v (n, m)).2.2]) (rg (bodyOf Tryd.f95) 4) (.c (.ptr 0 0 0 0) :: .c (.int .i64 v) :: J2 (.c (.ptr 2 0 0 0) :: .c (.ptr 3 0 0 0) :: J32 (J32 (J16 (J8 (.junk :: [])))))) [.cells 128 (Ty.enc tTrace t ++ [.map 1]), .map 164 tVal tVal n m, .cells 130 [.int .i64 0, .int .i64 0], .cells 46 (Ty.enc tIns (xV t v))] :=
 Run.roundA (oc106 k) itself_lv 3000 Tryd.func95 mixed (itself_r4_R t n m v k) (itself_r4_R_ok t n m v k) (by
  unfold itself_r4_R
  refine g_iteD (fun h0 => ?_) (fun h0 => ?_)
  ·first | rw [itM_cnt (t := t) (v := v) (rec := spanM t k) (m := (n, m)) hc h0] | rw [itM_all (t := t) (v := v) (rec := spanM t k) (m := (n, m)) hc h0 h1] | rw [itM_ints (t := t) (v := v) (rec := spanM t k) (m := (n, m)) hc h0 h1 h2] | rw [itM_rec (t := t) (v := v) (rec := spanM t k) (m := (n, m)) hc h0 h1 h2 h3]
   refine g_fin ?_
   exact g_end [0, 1] (show ∀ k, k < 2 → ([0, 1] : List Nat)[k]? = some k by decide) (by decide) (⟨⟨rfl, rfl⟩, ⟨rfl, rfl⟩, trivial⟩) ⟨leB.refl _, rfl, trivial⟩
  ·refine g_iteND (fun h1 => ?_) (fun h1 => ?_)
   ·refine g_call (spanall_fun) (fun h => nomatch h) ?_
    first | rw [itM_cnt (t := t) (v := v) (rec := spanM t k) (m := (n, m)) hc h0] | rw [itM_all (t := t) (v := v) (rec := spanM t k) (m := (n, m)) hc h0 h1] | rw [itM_ints (t := t) (v := v) (rec := spanM t k) (m := (n, m)) hc h0 h1 h2] | rw [itM_rec (t := t) (v := v) (rec := spanM t k) (m := (n, m)) hc h0 h1 h2 h3]
    refine g_fin ?_
    exact g_end [0, 1] (show ∀ k, k < 2 → ([0, 1] : List Nat)[k]? = some k by decide) (by decide) (⟨⟨rfl, rfl⟩, ⟨rfl, rfl⟩, trivial⟩) ⟨leB.refl _, rfl, trivial⟩
   ·refine g_callH (AFunH.frameB [0, 1] (ints_fun t n m v ⟨by omega, by omega⟩) rfl rfl rfl rfl rfl rfl rfl) ?_
    refine g_iteN (fun h2 => ?_) (fun h2 => ?_)
    ·refine g_call (spanall_fun) (fun h => nomatch h) ?_
     first | rw [itM_cnt (t := t) (v := v) (rec := spanM t k) (m := (n, m)) hc h0] | rw [itM_all (t := t) (v := v) (rec := spanM t k) (m := (n, m)) hc h0 h1] | rw [itM_ints (t := t) (v := v) (rec := spanM t k) (m := (n, m)) hc h0 h1 h2] | rw [itM_rec (t := t) (v := v) (rec := spanM t k) (m := (n, m)) hc h0 h1 h2 h3]
     refine g_fin ?_
     exact g_end [0, 1] (show ∀ k, k < 2 → ([0, 1] : List Nat)[k]? = some k by decide) (by decide) (⟨⟨rfl, rfl⟩, ⟨rfl, rfl⟩, trivial⟩) ⟨leB.refl _, rfl, trivial⟩
    ·refine g_callH (AFunH.frameB [0, 1] (reck_fun t n m v k bd hd hr hk hbl (by first | exact hm | exact kA | exact kB | exact kC | exact kD) ⟨by omega, by omega⟩ (by assumption)) rfl rfl rfl rfl rfl rfl rfl) ?_
     refine g_ite (fun h3 => ?_) (fun h3 => ?_)
     ·refine g_call (spancut_fun (reckM (spanM t k) t v (n, m)).1.1.1) (fun h => nomatch h) ?_
      refine g_call (spancut_fun (reckM (spanM t k) t v (n, m)).1.1.2) (fun h => nomatch h) ?_
      first | rw [itM_cnt (t := t) (v := v) (rec := spanM t k) (m := (n, m)) hc h0] | rw [itM_all (t := t) (v := v) (rec := spanM t k) (m := (n, m)) hc h0 h1] | rw [itM_ints (t := t) (v := v) (rec := spanM t k) (m := (n, m)) hc h0 h1 h2] | rw [itM_rec (t := t) (v := v) (rec := spanM t k) (m := (n, m)) hc h0 h1 h2 h3]
      refine g_fin ?_
      exact g_end [0, 1] (show ∀ k, k < 2 → ([0, 1] : List Nat)[k]? = some k by decide) (by decide) (⟨⟨rfl, rfl⟩, ⟨rfl, rfl⟩, trivial⟩) ⟨leB.refl _, rfl, trivial⟩
     ·refine g_stop (RunN.keep [0, 1, 2, 3] (true :: true :: F2 (true :: true :: F32 (F32 (F16 (F8 (false :: [])))))) (show ∀ k, k < 2 → ([0, 1, 2, 3] : List Nat)[k]? = some k by decide) (by decide) rfl rfl ?_)
      have ht := itself_r11 t n m v k (reckM (spanM t k) t v (n, m)).2.1 (reckM (spanM t k) t v (n, m)).2.2 bd hd hr hk hbl ((reckM_rel (SameX.refl t) hd.toDomT (spanM_rel hd.toDomT hk hbl) (by omega) (by omega) (by omega) (by assumption) (m' := ()) hm).2) (by omega) (by assumption); rw [itM_mod (t := t) (v := v) (rec := spanM t k) (m := (n, m)) hc h0 h1 h2 h3]; exact ht
  )
theorem itself_fun (t : ETrace) (n : Nat) (m : EVal → Option EVal) (v : Int) (k : Nat) (bd : Int) (hd : DomC t) (hr : SpanC t k bd) (hk : bd.toNat ≤ k) (hbl : bd ≤ (t.2.2.2.1.length : Int)) (hm : KeptOk t (n, m)) (hi : 0 ≤ v ∧ v < bd) : AFunH Tryd.prog 95 [.c (.ptr 0 0 0 0), .c (.int .i64 v)] [.cells 128 (Ty.enc tTrace t ++ [.map 1]), .map 164 tVal tVal n m] (.agg (Ty.enc tVal ((itselfM (spanM t k) t v (n, m)).1))) [.cells 128 (Ty.enc tTrace t ++ [.map 1]), .map 164 tVal tVal (itselfM (spanM t k) t v (n, m)).2.1 (itselfM (spanM t k) t v (n, m)).2.2] (List.range 2) :=
 AFunH.ofL (oc106 k) itself_lv 3000 Tryd.func95 mixed rfl (by decide) (Nat.le_of_ble_eq_true rfl) rfl rfl (Nat.le_of_ble_eq_true rfl) _ (itself_T_ok t n m v k) fun hF => by
  unfold itself_T
  refine g_need (by omega) ?_
  refine g_need (by omega) ?_
  refine g_iteD (fun h0 => ?_) (fun h0 => ?_)
  ·refine g_iteD (fun h1 => ?_) (fun h1 => ?_)
   ·rw [itM_con (t := t) (v := v) (rec := spanM t k) (m := (n, m)) h0 h1]
    refine g_fin ?_
    exact g_end [0, 1] (show ∀ k, k < 2 → ([0, 1] : List Nat)[k]? = some k by decide) (by decide) (⟨⟨rfl, rfl⟩, ⟨rfl, rfl⟩, trivial⟩) ⟨leB.refl _, rfl, trivial⟩
   ·refine g_stop (RunN.keep [0, 1, 2, 3] (true :: true :: F2 (true :: true :: F32 (F32 (F16 (F8 (false :: [])))))) (show ∀ k, k < 2 → ([0, 1, 2, 3] : List Nat)[k]? = some k by decide) (by decide) rfl rfl ?_)
    exact itself_r4 t n m v k  bd hd hr hk hbl hm hi (by intro hq; first | exact h1 hq.2 | exact h0 hq.1)
  ·refine g_stop (RunN.keep [0, 1, 2, 3] (true :: true :: F2 (true :: true :: F32 (F32 (F16 (F8 (false :: [])))))) (show ∀ k, k < 2 → ([0, 1, 2, 3] : List Nat)[k]? = some k by decide) (by decide) rfl rfl ?_)
   exact itself_r4 t n m v k  bd hd hr hk hbl hm hi (by intro hq; first | exact h1 hq.2 | exact h0 hq.1)

theorem lawArr : MapLaw Tryd.prog 164 tVal := by
 refine ⟨Maps.Keyed.of_law (deep_law_laid (P := Tryd.prog) (by kernel_rfl) (m := 3) (by omega) (of_decide_eq_true (by kernel_rfl)) (by kernel_rfl) (by kernel_rfl)), fun x hx => ?_⟩
 obtain ⟨a, b⟩ := x
 obtain ⟨ha, hb⟩ := hx
 have hf : (plainV tVal (a, b)).formed Tryd.prog 164 = true := by
  unfold plainV plainCs
  simp only [Value.formed, Ty.isPair, if_true]
  rw [Tryd.underlying164]
  rfl
 have hk : Tryd.prog.keyType 164 = true := by kernel_rfl
 obtain ⟨n, hn⟩ : ∃ n, Tryd.prog.types.size = n + 2 := ⟨Tryd.prog.types.size - 2, by kernel_rfl⟩
 have ci : Tryd.prog.cellsOf 3 = 1 := by kernel_rfl
 have c2 : Tryd.prog.cellsOf 164 = 2 := by kernel_rfl
 have wf : ∀ n : Int, inR .i64 n → (Lit.int .i64 n).wf = true := fun n h => by
  have := i64_iff.1 h
  simp [Lit.wf, IntKind.min, IntKind.max, IntKind.bits, IntKind.signed]
  omega
 have hl : ∃ ls, Tryd.prog.keyLits (n + 2 + 1) 164 [.int .i64 a, .int .i64 b] = some ls := by
  simp [Program.keyLits, Tryd.underlying164, Tryd.underlying3, ci, c2, List.range_succ, wf a ha, wf b hb]
 obtain ⟨ls, hls⟩ := hl
 refine ⟨.string (keyBytes ls), ?_⟩
 unfold keyOf
 rw [Tryd.underlying164]
 show (if (Tryd.prog.keyType 164 && (plainV tVal (a, b)).formed Tryd.prog 164) = true then _ else _) = _
 rw [if_pos (by rw [hk, hf]; rfl), hn]
 show Option.map _ (Tryd.prog.keyLits (n + 2 + 1) 164 [.int .i64 a, .int .i64 b]) = _
 rw [hls]
 rfl
noncomputable def oc107 (k : Nat) : Orc where
 pure := fun f args => match f, args with
  | _, _ => none
 heap := fun f args H => match f, args with
  | 95, [.one (.c (.ptr b0 0 0 0)), a1] => match cellsAs 128 H[b0]? with
   | some [c0_0_0, c0_0_1, c0_0_2, c0_0_3, c0_0_4, c0_0_5, c0_0_6, c0_0_7, c0_0_8, c0_0_9, c0_0_10, c0_0_11, c0_0_12, .map b1] => (match dA tI a1, dCs tTrace [c0_0_0, c0_0_1, c0_0_2, c0_0_3, c0_0_4, c0_0_5, c0_0_6, c0_0_7, c0_0_8, c0_0_9, c0_0_10, c0_0_11, c0_0_12], mapAs 164 tVal tVal H[b1]? with
    | some x1, some y0_0, some (n1, y1) => hres [b0, b1] H (.agg (Ty.enc tVal ((itselfM (spanM y0_0 k) y0_0 x1 (n1, y1)).1))) [.cells 128 [.int .i64 y0_0.1, .int .i64 y0_0.2.1, .int .i64 y0_0.2.2.1, .ro tIns y0_0.2.2.2.1, .ro tExit y0_0.2.2.2.2.1, .int .i64 y0_0.2.2.2.2.2.1.1, .int .i64 y0_0.2.2.2.2.2.1.2.1, .ro tVal y0_0.2.2.2.2.2.1.2.2.1, .ro tMake y0_0.2.2.2.2.2.1.2.2.2, .int .i64 y0_0.2.2.2.2.2.2.1, .int .i64 y0_0.2.2.2.2.2.2.2.1, .ro tVal y0_0.2.2.2.2.2.2.2.2.1, .ro tMake y0_0.2.2.2.2.2.2.2.2.2, .map 1], .map 164 tVal tVal (itselfM (spanM y0_0 k) y0_0 x1 (n1, y1)).2.1 (itselfM (spanM y0_0 k) y0_0 x1 (n1, y1)).2.2]
    | _, _, _ => none)
   | _ => none
  | 96, [.one (.c (.ptr b0 0 0 0)), a1] => match cellsAs 128 H[b0]? with
   | some [c0_0_0, c0_0_1, c0_0_2, c0_0_3, c0_0_4, c0_0_5, c0_0_6, c0_0_7, c0_0_8, c0_0_9, c0_0_10, c0_0_11, c0_0_12, .map b1] => (match dA tI a1, dCs tTrace [c0_0_0, c0_0_1, c0_0_2, c0_0_3, c0_0_4, c0_0_5, c0_0_6, c0_0_7, c0_0_8, c0_0_9, c0_0_10, c0_0_11, c0_0_12], mapAs 164 tVal tVal H[b1]? with
    | some x1, some y0_0, some (n1, y1) => hres [b0, b1] H (.c (.bool (intsF y0_0 x1))) [.cells 128 [.int .i64 y0_0.1, .int .i64 y0_0.2.1, .int .i64 y0_0.2.2.1, .ro tIns y0_0.2.2.2.1, .ro tExit y0_0.2.2.2.2.1, .int .i64 y0_0.2.2.2.2.2.1.1, .int .i64 y0_0.2.2.2.2.2.1.2.1, .ro tVal y0_0.2.2.2.2.2.1.2.2.1, .ro tMake y0_0.2.2.2.2.2.1.2.2.2, .int .i64 y0_0.2.2.2.2.2.2.1, .int .i64 y0_0.2.2.2.2.2.2.2.1, .ro tVal y0_0.2.2.2.2.2.2.2.2.1, .ro tMake y0_0.2.2.2.2.2.2.2.2.2, .map 1], .map 164 tVal tVal n1 y1]
    | _, _, _ => none)
   | _ => none
  | 97, [.one (.c (.ptr b0 0 0 0)), a1, a2, a3, a4, a5, a6] => match cellsAs 128 H[b0]? with
   | some [c0_0_0, c0_0_1, c0_0_2, c0_0_3, c0_0_4, c0_0_5, c0_0_6, c0_0_7, c0_0_8, c0_0_9, c0_0_10, c0_0_11, c0_0_12, .map b1] => (match dA tVal a1, dA tI a2, dA tI a3, dA tI a4, dA tI a5, dA tI a6, dCs tTrace [c0_0_0, c0_0_1, c0_0_2, c0_0_3, c0_0_4, c0_0_5, c0_0_6, c0_0_7, c0_0_8, c0_0_9, c0_0_10, c0_0_11, c0_0_12], mapAs 164 tVal tVal H[b1]? with
    | some x1, some x2, some x3, some x4, some x5, some x6, some y0_0, some (n1, y1) => hres [b0, b1] H (.agg (Ty.enc tVal ((narM (spanM y0_0 k) x1 x2 x3 x4 x5 x6 (n1, y1)).1))) [.cells 128 [.int .i64 y0_0.1, .int .i64 y0_0.2.1, .int .i64 y0_0.2.2.1, .ro tIns y0_0.2.2.2.1, .ro tExit y0_0.2.2.2.2.1, .int .i64 y0_0.2.2.2.2.2.1.1, .int .i64 y0_0.2.2.2.2.2.1.2.1, .ro tVal y0_0.2.2.2.2.2.1.2.2.1, .ro tMake y0_0.2.2.2.2.2.1.2.2.2, .int .i64 y0_0.2.2.2.2.2.2.1, .int .i64 y0_0.2.2.2.2.2.2.2.1, .ro tVal y0_0.2.2.2.2.2.2.2.2.1, .ro tMake y0_0.2.2.2.2.2.2.2.2.2, .map 1], .map 164 tVal tVal (narM (spanM y0_0 k) x1 x2 x3 x4 x5 x6 (n1, y1)).2.1 (narM (spanM y0_0 k) x1 x2 x3 x4 x5 x6 (n1, y1)).2.2]
    | _, _, _, _, _, _, _, _ => none)
   | _ => none
  | _, _ => none
def span_lv : LV := ⟨(true :: true :: true :: F2 (false :: true :: true :: F2 (true :: true :: true :: true :: F32 (F32 (F32 (F8 (F4 (F2 (false :: []))))))))), [13]⟩
noncomputable def span_T (t : ETrace) (n : Nat) (m : EVal → Option EVal) (v : Int) (a : Int) (k : Nat) : Tree :=
 .need (([0, 0]).length = 2) <|
 .need (2 ≤ ([v, a]).length) <|
 .need (Tryd.prog = Tryd.prog ∧ MapLaw Tryd.prog 164 tVal) <|
 .ite ((m ((([v, a]).getD 0 tI.dflt), (([v, a]).getD 1 tI.dflt))).isSome)
 (.ret (.agg [.int .i64 ((m ((([v, a]).getD 0 tI.dflt), (([v, a]).getD 1 tI.dflt))).getD (0, 0)).1, .int .i64 ((m ((([v, a]).getD 0 tI.dflt), (([v, a]).getD 1 tI.dflt))).getD (0, 0)).2]) [.cells 128 (Ty.enc tTrace t ++ [.map 1]), .map 164 tVal tVal n m, .cells 130 [.int .i64 ((m ((([v, a]).getD 0 tI.dflt), (([v, a]).getD 1 tI.dflt))).getD (0, 0)).1, .int .i64 ((m ((([v, a]).getD 0 tI.dflt), (([v, a]).getD 1 tI.dflt))).getD (0, 0)).2], .vec 164 tI ([v, a]), .cells 130 [.int .i64 ((m ((([v, a]).getD 0 tI.dflt), (([v, a]).getD 1 tI.dflt))).getD (0, 0)).1, .int .i64 ((m ((([v, a]).getD 0 tI.dflt), (([v, a]).getD 1 tI.dflt))).getD (0, 0)).2]])
 (.callH 95 [.c (.ptr 0 0 0 0), .c (.int .i64 v)] [.cells 128 (Ty.enc tTrace t ++ [.map 1]), .map 164 tVal tVal n m, .cells 130 [.int .i64 0, .int .i64 0], .vec 164 tI ([v, a]), .cells 130 [.int .i64 ((m ((([v, a]).getD 0 tI.dflt), (([v, a]).getD 1 tI.dflt))).getD (0, 0)).1, .int .i64 ((m ((([v, a]).getD 0 tI.dflt), (([v, a]).getD 1 tI.dflt))).getD (0, 0)).2]] (.agg [.int .i64 (itselfM (spanM t k) t v (n, m)).1.1, .int .i64 (itselfM (spanM t k) t v (n, m)).1.2]) [.cells 128 (Ty.enc tTrace t ++ [.map 1]), .map 164 tVal tVal (itselfM (spanM t k) t v (n, m)).2.1 (itselfM (spanM t k) t v (n, m)).2.2, .cells 130 [.int .i64 0, .int .i64 0], .vec 164 tI ([v, a]), .cells 130 [.int .i64 ((m ((([v, a]).getD 0 tI.dflt), (([v, a]).getD 1 tI.dflt))).getD (0, 0)).1, .int .i64 ((m ((([v, a]).getD 0 tI.dflt), (([v, a]).getD 1 tI.dflt))).getD (0, 0)).2]] [0, 1] <|
  .need (inR .i64 (v + 1)) <|
  .stop (lp (bodyOf Tryd.f62) 0) (.c (.ptr 0 0 0 0) :: .c (.int .i64 v) :: .c (.int .i64 a) :: J2 (.junk :: .c (.ptr 2 0 0 0) :: .c (.ptr 3 0 0 0) :: J2 (.c (.ptr 5 0 0 0) :: .c (.int .i64 (v + 1)) :: J32 (J32 (J32 (J16 (.junk :: []))))))) [.cells 128 (Ty.enc tTrace t ++ [.map 1]), .map 164 tVal tVal (itselfM (spanM t k) t v (n, m)).2.1 (itselfM (spanM t k) t v (n, m)).2.2, .cells 130 [.int .i64 0, .int .i64 0], .vec 164 tI ([v, a]), .cells 130 [.int .i64 ((m ((([v, a]).getD 0 tI.dflt), (([v, a]).getD 1 tI.dflt))).getD (0, 0)).1, .int .i64 ((m ((([v, a]).getD 0 tI.dflt), (([v, a]).getD 1 tI.dflt))).getD (0, 0)).2], .cells 130 [.int .i64 (itselfM (spanM t k) t v (n, m)).1.1, .int .i64 (itselfM (spanM t k) t v (n, m)).1.2]])
theorem span_T_ok (t : ETrace) (n : Nat) (m : EVal → Option EVal) (v : Int) (a : Int) (k : Nat) : aRun Tryd.prog (oc107 k) Tryd.f62 span_lv 3000 [.code (bodyOf Tryd.f62)] ([.c (.ptr 0 0 0 0), .c (.int .i64 v), .c (.int .i64 a)] ++ List.replicate (Func.ntmps Tryd.f62 - 3) .junk) [.cells 128 (Ty.enc tTrace t ++ [.map 1]), .map 164 tVal tVal n m] = span_T t n m v a k := by kernel_rfl
abbrev bDb0 (t : ETrace) (i : Int) : AB := .cells 46 [.int .i64 (xV t (xV t i).2.1).1, .int .i64 (xV t (xV t i).2.1).2.1, .int .i64 (xV t (xV t i).2.1).2.2.1, .int .i64 (xV t (xV t i).2.1).2.2.2.1, .int .i64 (xV t (xV t i).2.1).2.2.2.2.1, .int .i64 (xV t (xV t i).2.1).2.2.2.2.2.1, .int .i64 (xV t (xV t i).2.1).2.2.2.2.2.2.1, .int .i64 (xV t (xV t i).2.1).2.2.2.2.2.2.2]
abbrev bDb1 (t : ETrace) (i : Int) : AB := .cells 46 [.int .i64 (xV t i).1, .int .i64 (xV t i).2.1, .int .i64 (xV t i).2.2.1, .int .i64 (xV t i).2.2.2.1, .int .i64 (xV t i).2.2.2.2.1, .int .i64 (xV t i).2.2.2.2.2.1, .int .i64 (xV t i).2.2.2.2.2.2.1, .int .i64 (xV t i).2.2.2.2.2.2.2]
noncomputable def span_l0_R (t : ETrace) (n : Nat) (m : EVal → Option EVal) (v : Int) (a : Int) (k : Nat) (i : Int) (n1 : Nat) (m1 : EVal → Option EVal) (s0 : Int) (s1 : Int) : Tree :=
 .ite (decide (i < a))
 (.need ((0 : Int) ≤ i ∧ (i : Int) < (t.2.2.2.1.length : Int)) <|
  .need ((Int.toNat i) < t.2.2.2.1.length) <|
  .ite ((!(decide ((xV t i).1 = 5))))
  (.need (inR .i64 (i + 1)) <|
  .stop (lp (bodyOf Tryd.f62) 0) (.c (.ptr 0 0 0 0) :: .c (.int .i64 v) :: .c (.int .i64 a) :: J2 (.junk :: .c (.ptr 2 0 0 0) :: .c (.ptr 3 0 0 0) :: J2 (.c (.ptr 4 0 0 0) :: .c (.int .i64 (i + 1)) :: .c (.ptr 5 0 0 0) :: J32 (J32 (J32 (J16 ([]))))))) [.cells 128 (Ty.enc tTrace t ++ [.map 1]), .map 164 tVal tVal n1 m1, .cells 130 [.int .i64 0, .int .i64 0], .vec 164 tI ([v, a]), .cells 130 [.int .i64 s0, .int .i64 s1], (bDb1 t i)])
  (.need ((0 : Int) ≤ (xV t i).2.1 ∧ ((xV t i).2.1 : Int) < (t.2.2.2.1.length : Int)) <|
  .need ((Int.toNat (xV t i).2.1) < t.2.2.2.1.length) <|
  .ite ((!(decide ((xV t (xV t i).2.1).1 = 7))))
  (.need (inR .i64 (i + 1)) <|
   .stop (lp (bodyOf Tryd.f62) 0) (.c (.ptr 0 0 0 0) :: .c (.int .i64 v) :: .c (.int .i64 a) :: J2 (.junk :: .c (.ptr 2 0 0 0) :: .c (.ptr 3 0 0 0) :: J2 (.c (.ptr 4 0 0 0) :: .c (.int .i64 (i + 1)) :: .c (.ptr 5 0 0 0) :: .c (.ptr 6 0 0 0) :: J32 (J32 (J32 (J8 (J4 (J2 (.junk :: []))))))))) [.cells 128 (Ty.enc tTrace t ++ [.map 1]), .map 164 tVal tVal n1 m1, .cells 130 [.int .i64 0, .int .i64 0], .vec 164 tI ([v, a]), .cells 130 [.int .i64 s0, .int .i64 s1], (bDb1 t i), (bDb0 t i)])
  (.ite ((!(decide ((xV t (xV t i).2.1).2.2.2.2.1 = 9))))
   (.ite ((!(decide ((xV t (xV t i).2.1).2.2.2.2.1 = 10))))
   (.need (inR .i64 (i + 1)) <|
    .stop (lp (bodyOf Tryd.f62) 0) (.c (.ptr 0 0 0 0) :: .c (.int .i64 v) :: .c (.int .i64 a) :: J2 (.junk :: .c (.ptr 2 0 0 0) :: .c (.ptr 3 0 0 0) :: J2 (.c (.ptr 4 0 0 0) :: .c (.int .i64 (i + 1)) :: .c (.ptr 5 0 0 0) :: .c (.ptr 6 0 0 0) :: J32 (J32 (J32 (J8 (J4 (J2 (.junk :: []))))))))) [.cells 128 (Ty.enc tTrace t ++ [.map 1]), .map 164 tVal tVal n1 m1, .cells 130 [.int .i64 0, .int .i64 0], .vec 164 tI ([v, a]), .cells 130 [.int .i64 s0, .int .i64 s1], (bDb1 t i), (bDb0 t i)])
   (.ite ((!(decide ((xV t (xV t i).2.1).2.1 = v))))
    (.ite ((!(decide ((xV t (xV t i).2.1).2.2.1 = v))))
    (.need (inR .i64 (i + 1)) <|
     .stop (lp (bodyOf Tryd.f62) 0) (.c (.ptr 0 0 0 0) :: .c (.int .i64 v) :: .c (.int .i64 a) :: J2 (.junk :: .c (.ptr 2 0 0 0) :: .c (.ptr 3 0 0 0) :: J2 (.c (.ptr 4 0 0 0) :: .c (.int .i64 (i + 1)) :: .c (.ptr 5 0 0 0) :: .c (.ptr 6 0 0 0) :: J32 (J32 (J32 (J8 (J4 (J2 (.junk :: []))))))))) [.cells 128 (Ty.enc tTrace t ++ [.map 1]), .map 164 tVal tVal n1 m1, .cells 130 [.int .i64 0, .int .i64 0], .vec 164 tI ([v, a]), .cells 130 [.int .i64 s0, .int .i64 s1], (bDb1 t i), (bDb0 t i)])
    (.callH 96 [.c (.ptr 0 0 0 0), .c (.int .i64 (xV t i).2.1)] [.cells 128 (Ty.enc tTrace t ++ [.map 1]), .map 164 tVal tVal n1 m1, .cells 130 [.int .i64 0, .int .i64 0], .vec 164 tI ([v, a]), .cells 130 [.int .i64 s0, .int .i64 s1], (bDb1 t i), (bDb0 t i)] (.c (.bool (intsF t (xV t i).2.1))) [.cells 128 (Ty.enc tTrace t ++ [.map 1]), .map 164 tVal tVal n1 m1, .cells 130 [.int .i64 0, .int .i64 0], .vec 164 tI ([v, a]), .cells 130 [.int .i64 s0, .int .i64 s1], (bDb1 t i), (bDb0 t i)] [0, 1] <|
     .ite ((!(intsF t (xV t i).2.1)))
     (.need (inR .i64 (i + 1)) <|
     .stop (lp (bodyOf Tryd.f62) 0) (.c (.ptr 0 0 0 0) :: .c (.int .i64 v) :: .c (.int .i64 a) :: J2 (.junk :: .c (.ptr 2 0 0 0) :: .c (.ptr 3 0 0 0) :: J2 (.c (.ptr 4 0 0 0) :: .c (.int .i64 (i + 1)) :: .c (.ptr 5 0 0 0) :: .c (.ptr 6 0 0 0) :: J32 (J32 (J32 (J8 (J4 (J2 (.junk :: []))))))))) [.cells 128 (Ty.enc tTrace t ++ [.map 1]), .map 164 tVal tVal n1 m1, .cells 130 [.int .i64 0, .int .i64 0], .vec 164 tI ([v, a]), .cells 130 [.int .i64 s0, .int .i64 s1], (bDb1 t i), (bDb0 t i)])
     (.stop (rg (bodyOf Tryd.f62) 13) (.c (.ptr 0 0 0 0) :: .c (.int .i64 v) :: .c (.int .i64 a) :: J2 (.junk :: .c (.ptr 2 0 0 0) :: .c (.ptr 3 0 0 0) :: J2 (.c (.ptr 4 0 0 0) :: .c (.int .i64 i) :: .c (.ptr 5 0 0 0) :: .c (.ptr 6 0 0 0) :: J32 (J32 (J32 (J8 (J4 (J2 (.junk :: []))))))))) [.cells 128 (Ty.enc tTrace t ++ [.map 1]), .map 164 tVal tVal n1 m1, .cells 130 [.int .i64 0, .int .i64 0], .vec 164 tI ([v, a]), .cells 130 [.int .i64 s0, .int .i64 s1], (bDb1 t i), (bDb0 t i)])))
    (.callH 96 [.c (.ptr 0 0 0 0), .c (.int .i64 (xV t i).2.1)] [.cells 128 (Ty.enc tTrace t ++ [.map 1]), .map 164 tVal tVal n1 m1, .cells 130 [.int .i64 0, .int .i64 0], .vec 164 tI ([v, a]), .cells 130 [.int .i64 s0, .int .i64 s1], (bDb1 t i), (bDb0 t i)] (.c (.bool (intsF t (xV t i).2.1))) [.cells 128 (Ty.enc tTrace t ++ [.map 1]), .map 164 tVal tVal n1 m1, .cells 130 [.int .i64 0, .int .i64 0], .vec 164 tI ([v, a]), .cells 130 [.int .i64 s0, .int .i64 s1], (bDb1 t i), (bDb0 t i)] [0, 1] <|
    .ite ((!(intsF t (xV t i).2.1)))
    (.need (inR .i64 (i + 1)) <|
     .stop (lp (bodyOf Tryd.f62) 0) (.c (.ptr 0 0 0 0) :: .c (.int .i64 v) :: .c (.int .i64 a) :: J2 (.junk :: .c (.ptr 2 0 0 0) :: .c (.ptr 3 0 0 0) :: J2 (.c (.ptr 4 0 0 0) :: .c (.int .i64 (i + 1)) :: .c (.ptr 5 0 0 0) :: .c (.ptr 6 0 0 0) :: J32 (J32 (J32 (J8 (J4 (J2 (.junk :: []))))))))) [.cells 128 (Ty.enc tTrace t ++ [.map 1]), .map 164 tVal tVal n1 m1, .cells 130 [.int .i64 0, .int .i64 0], .vec 164 tI ([v, a]), .cells 130 [.int .i64 s0, .int .i64 s1], (bDb1 t i), (bDb0 t i)])
    (.stop (rg (bodyOf Tryd.f62) 13) (.c (.ptr 0 0 0 0) :: .c (.int .i64 v) :: .c (.int .i64 a) :: J2 (.junk :: .c (.ptr 2 0 0 0) :: .c (.ptr 3 0 0 0) :: J2 (.c (.ptr 4 0 0 0) :: .c (.int .i64 i) :: .c (.ptr 5 0 0 0) :: .c (.ptr 6 0 0 0) :: J32 (J32 (J32 (J8 (J4 (J2 (.junk :: []))))))))) [.cells 128 (Ty.enc tTrace t ++ [.map 1]), .map 164 tVal tVal n1 m1, .cells 130 [.int .i64 0, .int .i64 0], .vec 164 tI ([v, a]), .cells 130 [.int .i64 s0, .int .i64 s1], (bDb1 t i), (bDb0 t i)]))))
   (.ite ((!(decide ((xV t (xV t i).2.1).2.1 = v))))
   (.ite ((!(decide ((xV t (xV t i).2.1).2.2.1 = v))))
    (.need (inR .i64 (i + 1)) <|
    .stop (lp (bodyOf Tryd.f62) 0) (.c (.ptr 0 0 0 0) :: .c (.int .i64 v) :: .c (.int .i64 a) :: J2 (.junk :: .c (.ptr 2 0 0 0) :: .c (.ptr 3 0 0 0) :: J2 (.c (.ptr 4 0 0 0) :: .c (.int .i64 (i + 1)) :: .c (.ptr 5 0 0 0) :: .c (.ptr 6 0 0 0) :: J32 (J32 (J32 (J8 (J4 (J2 (.junk :: []))))))))) [.cells 128 (Ty.enc tTrace t ++ [.map 1]), .map 164 tVal tVal n1 m1, .cells 130 [.int .i64 0, .int .i64 0], .vec 164 tI ([v, a]), .cells 130 [.int .i64 s0, .int .i64 s1], (bDb1 t i), (bDb0 t i)])
    (.callH 96 [.c (.ptr 0 0 0 0), .c (.int .i64 (xV t i).2.1)] [.cells 128 (Ty.enc tTrace t ++ [.map 1]), .map 164 tVal tVal n1 m1, .cells 130 [.int .i64 0, .int .i64 0], .vec 164 tI ([v, a]), .cells 130 [.int .i64 s0, .int .i64 s1], (bDb1 t i), (bDb0 t i)] (.c (.bool (intsF t (xV t i).2.1))) [.cells 128 (Ty.enc tTrace t ++ [.map 1]), .map 164 tVal tVal n1 m1, .cells 130 [.int .i64 0, .int .i64 0], .vec 164 tI ([v, a]), .cells 130 [.int .i64 s0, .int .i64 s1], (bDb1 t i), (bDb0 t i)] [0, 1] <|
    .ite ((!(intsF t (xV t i).2.1)))
    (.need (inR .i64 (i + 1)) <|
     .stop (lp (bodyOf Tryd.f62) 0) (.c (.ptr 0 0 0 0) :: .c (.int .i64 v) :: .c (.int .i64 a) :: J2 (.junk :: .c (.ptr 2 0 0 0) :: .c (.ptr 3 0 0 0) :: J2 (.c (.ptr 4 0 0 0) :: .c (.int .i64 (i + 1)) :: .c (.ptr 5 0 0 0) :: .c (.ptr 6 0 0 0) :: J32 (J32 (J32 (J8 (J4 (J2 (.junk :: []))))))))) [.cells 128 (Ty.enc tTrace t ++ [.map 1]), .map 164 tVal tVal n1 m1, .cells 130 [.int .i64 0, .int .i64 0], .vec 164 tI ([v, a]), .cells 130 [.int .i64 s0, .int .i64 s1], (bDb1 t i), (bDb0 t i)])
    (.stop (rg (bodyOf Tryd.f62) 13) (.c (.ptr 0 0 0 0) :: .c (.int .i64 v) :: .c (.int .i64 a) :: J2 (.junk :: .c (.ptr 2 0 0 0) :: .c (.ptr 3 0 0 0) :: J2 (.c (.ptr 4 0 0 0) :: .c (.int .i64 i) :: .c (.ptr 5 0 0 0) :: .c (.ptr 6 0 0 0) :: J32 (J32 (J32 (J8 (J4 (J2 (.junk :: []))))))))) [.cells 128 (Ty.enc tTrace t ++ [.map 1]), .map 164 tVal tVal n1 m1, .cells 130 [.int .i64 0, .int .i64 0], .vec 164 tI ([v, a]), .cells 130 [.int .i64 s0, .int .i64 s1], (bDb1 t i), (bDb0 t i)])))
   (.callH 96 [.c (.ptr 0 0 0 0), .c (.int .i64 (xV t i).2.1)] [.cells 128 (Ty.enc tTrace t ++ [.map 1]), .map 164 tVal tVal n1 m1, .cells 130 [.int .i64 0, .int .i64 0], .vec 164 tI ([v, a]), .cells 130 [.int .i64 s0, .int .i64 s1], (bDb1 t i), (bDb0 t i)] (.c (.bool (intsF t (xV t i).2.1))) [.cells 128 (Ty.enc tTrace t ++ [.map 1]), .map 164 tVal tVal n1 m1, .cells 130 [.int .i64 0, .int .i64 0], .vec 164 tI ([v, a]), .cells 130 [.int .i64 s0, .int .i64 s1], (bDb1 t i), (bDb0 t i)] [0, 1] <|
    .ite ((!(intsF t (xV t i).2.1)))
    (.need (inR .i64 (i + 1)) <|
    .stop (lp (bodyOf Tryd.f62) 0) (.c (.ptr 0 0 0 0) :: .c (.int .i64 v) :: .c (.int .i64 a) :: J2 (.junk :: .c (.ptr 2 0 0 0) :: .c (.ptr 3 0 0 0) :: J2 (.c (.ptr 4 0 0 0) :: .c (.int .i64 (i + 1)) :: .c (.ptr 5 0 0 0) :: .c (.ptr 6 0 0 0) :: J32 (J32 (J32 (J8 (J4 (J2 (.junk :: []))))))))) [.cells 128 (Ty.enc tTrace t ++ [.map 1]), .map 164 tVal tVal n1 m1, .cells 130 [.int .i64 0, .int .i64 0], .vec 164 tI ([v, a]), .cells 130 [.int .i64 s0, .int .i64 s1], (bDb1 t i), (bDb0 t i)])
    (.stop (rg (bodyOf Tryd.f62) 13) (.c (.ptr 0 0 0 0) :: .c (.int .i64 v) :: .c (.int .i64 a) :: J2 (.junk :: .c (.ptr 2 0 0 0) :: .c (.ptr 3 0 0 0) :: J2 (.c (.ptr 4 0 0 0) :: .c (.int .i64 i) :: .c (.ptr 5 0 0 0) :: .c (.ptr 6 0 0 0) :: J32 (J32 (J32 (J8 (J4 (J2 (.junk :: []))))))))) [.cells 128 (Ty.enc tTrace t ++ [.map 1]), .map 164 tVal tVal n1 m1, .cells 130 [.int .i64 0, .int .i64 0], .vec 164 tI ([v, a]), .cells 130 [.int .i64 s0, .int .i64 s1], (bDb1 t i), (bDb0 t i)]))))))
 (.need (2 ≤ ([v, a]).length) <|
  .need (Tryd.prog = Tryd.prog ∧ MapLaw Tryd.prog 164 tVal ∧ n1 < 140737488355328) <|
  .ret (.agg [.int .i64 s0, .int .i64 s1]) [.cells 128 (Ty.enc tTrace t ++ [.map 1]), .map 164 tVal tVal (n1 + 1) (updM (kt := tVal) m1 ((([v, a]).getD 0 tI.dflt), (([v, a]).getD 1 tI.dflt)) (s0, s1)), .cells 130 [.int .i64 s0, .int .i64 s1], .vec 164 tI ([v, a]), .cells 130 [.int .i64 s0, .int .i64 s1]])
theorem span_l0_R_ok (t : ETrace) (n : Nat) (m : EVal → Option EVal) (v : Int) (a : Int) (k : Nat) (i : Int) (n1 : Nat) (m1 : EVal → Option EVal) (s0 : Int) (s1 : Int) : aRound Tryd.prog (oc107 k) Tryd.f62 span_lv 3000 (lp (bodyOf Tryd.f62) 0) (.c (.ptr 0 0 0 0) :: .c (.int .i64 v) :: .c (.int .i64 a) :: J2 (.junk :: .c (.ptr 2 0 0 0) :: .c (.ptr 3 0 0 0) :: J2 (.c (.ptr 4 0 0 0) :: .c (.int .i64 i) :: J32 (J32 (J32 (J16 (.junk :: []))))))) [.cells 128 (Ty.enc tTrace t ++ [.map 1]), .map 164 tVal tVal n1 m1, .cells 130 [.int .i64 0, .int .i64 0], .vec 164 tI ([v, a]), .cells 130 [.int .i64 s0, .int .i64 s1]] = span_l0_R t n m v a k i n1 m1 s0 s1 := by kernel_rfl
noncomputable def span_r13_R (t : ETrace) (n : Nat) (m : EVal → Option EVal) (v : Int) (a : Int) (k : Nat) (i : Int) (n1 : Nat) (m1 : EVal → Option EVal) (s0 : Int) (s1 : Int) : Tree :=
 .ite (decide ((xV t (xV t i).2.1).2.2.2.2.1 = 9))
 (.ite (decide ((xV t i).2.2.2.2.1 = 1))
  (.callH 97 [.c (.ptr 0 0 0 0), .agg [.int .i64 s0, .int .i64 s1], .c (.int .i64 v), .c (.int .i64 (xV t (xV t i).2.1).2.1), .c (.int .i64 (xV t (xV t i).2.1).2.2.1), .c (.int .i64 1), .c (.int .i64 i)] [.cells 128 (Ty.enc tTrace t ++ [.map 1]), .map 164 tVal tVal n1 m1, .cells 130 [.int .i64 0, .int .i64 0], .vec 164 tI ([v, a]), .cells 130 [.int .i64 s0, .int .i64 s1], (bDb1 t i), (bDb0 t i)] (.agg [.int .i64 (narM (spanM t k) (s0, s1) v (xV t (xV t i).2.1).2.1 (xV t (xV t i).2.1).2.2.1 1 i (n1, m1)).1.1, .int .i64 (narM (spanM t k) (s0, s1) v (xV t (xV t i).2.1).2.1 (xV t (xV t i).2.1).2.2.1 1 i (n1, m1)).1.2]) [.cells 128 (Ty.enc tTrace t ++ [.map 1]), .map 164 tVal tVal (narM (spanM t k) (s0, s1) v (xV t (xV t i).2.1).2.1 (xV t (xV t i).2.1).2.2.1 1 i (n1, m1)).2.1 (narM (spanM t k) (s0, s1) v (xV t (xV t i).2.1).2.1 (xV t (xV t i).2.1).2.2.1 1 i (n1, m1)).2.2, .cells 130 [.int .i64 0, .int .i64 0], .vec 164 tI ([v, a]), .cells 130 [.int .i64 s0, .int .i64 s1], (bDb1 t i), (bDb0 t i)] [0, 1] <|
  .need (inR .i64 (i + 1)) <|
  .stop (lp (bodyOf Tryd.f62) 0) (.c (.ptr 0 0 0 0) :: .c (.int .i64 v) :: .c (.int .i64 a) :: J2 (.junk :: .c (.ptr 2 0 0 0) :: .c (.ptr 3 0 0 0) :: J2 (.c (.ptr 4 0 0 0) :: .c (.int .i64 (i + 1)) :: .c (.ptr 5 0 0 0) :: .c (.ptr 6 0 0 0) :: J32 (J32 (J32 (J8 (J4 (J2 (.junk :: []))))))))) [.cells 128 (Ty.enc tTrace t ++ [.map 1]), .map 164 tVal tVal (narM (spanM t k) (s0, s1) v (xV t (xV t i).2.1).2.1 (xV t (xV t i).2.1).2.2.1 1 i (n1, m1)).2.1 (narM (spanM t k) (s0, s1) v (xV t (xV t i).2.1).2.1 (xV t (xV t i).2.1).2.2.1 1 i (n1, m1)).2.2, .cells 130 [.int .i64 0, .int .i64 0], .vec 164 tI ([v, a]), .cells 130 [.int .i64 (narM (spanM t k) (s0, s1) v (xV t (xV t i).2.1).2.1 (xV t (xV t i).2.1).2.2.1 1 i (n1, m1)).1.1, .int .i64 (narM (spanM t k) (s0, s1) v (xV t (xV t i).2.1).2.1 (xV t (xV t i).2.1).2.2.1 1 i (n1, m1)).1.2], (bDb1 t i), (bDb0 t i)])
  (.need (inR .i64 (1 - 1)) <|
  .callH 97 [.c (.ptr 0 0 0 0), .agg [.int .i64 s0, .int .i64 s1], .c (.int .i64 v), .c (.int .i64 (xV t (xV t i).2.1).2.2.1), .c (.int .i64 (xV t (xV t i).2.1).2.1), .c (.int .i64 (1 - 1)), .c (.int .i64 i)] [.cells 128 (Ty.enc tTrace t ++ [.map 1]), .map 164 tVal tVal n1 m1, .cells 130 [.int .i64 0, .int .i64 0], .vec 164 tI ([v, a]), .cells 130 [.int .i64 s0, .int .i64 s1], (bDb1 t i), (bDb0 t i)] (.agg [.int .i64 (narM (spanM t k) (s0, s1) v (xV t (xV t i).2.1).2.2.1 (xV t (xV t i).2.1).2.1 (1 - 1) i (n1, m1)).1.1, .int .i64 (narM (spanM t k) (s0, s1) v (xV t (xV t i).2.1).2.2.1 (xV t (xV t i).2.1).2.1 (1 - 1) i (n1, m1)).1.2]) [.cells 128 (Ty.enc tTrace t ++ [.map 1]), .map 164 tVal tVal (narM (spanM t k) (s0, s1) v (xV t (xV t i).2.1).2.2.1 (xV t (xV t i).2.1).2.1 (1 - 1) i (n1, m1)).2.1 (narM (spanM t k) (s0, s1) v (xV t (xV t i).2.1).2.2.1 (xV t (xV t i).2.1).2.1 (1 - 1) i (n1, m1)).2.2, .cells 130 [.int .i64 0, .int .i64 0], .vec 164 tI ([v, a]), .cells 130 [.int .i64 s0, .int .i64 s1], (bDb1 t i), (bDb0 t i)] [0, 1] <|
  .need (inR .i64 (i + 1)) <|
  .stop (lp (bodyOf Tryd.f62) 0) (.c (.ptr 0 0 0 0) :: .c (.int .i64 v) :: .c (.int .i64 a) :: J2 (.junk :: .c (.ptr 2 0 0 0) :: .c (.ptr 3 0 0 0) :: J2 (.c (.ptr 4 0 0 0) :: .c (.int .i64 (i + 1)) :: .c (.ptr 5 0 0 0) :: .c (.ptr 6 0 0 0) :: J32 (J32 (J32 (J8 (J4 (J2 (.junk :: []))))))))) [.cells 128 (Ty.enc tTrace t ++ [.map 1]), .map 164 tVal tVal (narM (spanM t k) (s0, s1) v (xV t (xV t i).2.1).2.2.1 (xV t (xV t i).2.1).2.1 (1 - 1) i (n1, m1)).2.1 (narM (spanM t k) (s0, s1) v (xV t (xV t i).2.1).2.2.1 (xV t (xV t i).2.1).2.1 (1 - 1) i (n1, m1)).2.2, .cells 130 [.int .i64 0, .int .i64 0], .vec 164 tI ([v, a]), .cells 130 [.int .i64 (narM (spanM t k) (s0, s1) v (xV t (xV t i).2.1).2.2.1 (xV t (xV t i).2.1).2.1 (1 - 1) i (n1, m1)).1.1, .int .i64 (narM (spanM t k) (s0, s1) v (xV t (xV t i).2.1).2.2.1 (xV t (xV t i).2.1).2.1 (1 - 1) i (n1, m1)).1.2], (bDb1 t i), (bDb0 t i)]))
 (.ite (decide ((xV t i).2.2.2.2.1 = 1))
  (.callH 97 [.c (.ptr 0 0 0 0), .agg [.int .i64 s0, .int .i64 s1], .c (.int .i64 v), .c (.int .i64 (xV t (xV t i).2.1).2.1), .c (.int .i64 (xV t (xV t i).2.1).2.2.1), .c (.int .i64 0), .c (.int .i64 i)] [.cells 128 (Ty.enc tTrace t ++ [.map 1]), .map 164 tVal tVal n1 m1, .cells 130 [.int .i64 0, .int .i64 0], .vec 164 tI ([v, a]), .cells 130 [.int .i64 s0, .int .i64 s1], (bDb1 t i), (bDb0 t i)] (.agg [.int .i64 (narM (spanM t k) (s0, s1) v (xV t (xV t i).2.1).2.1 (xV t (xV t i).2.1).2.2.1 0 i (n1, m1)).1.1, .int .i64 (narM (spanM t k) (s0, s1) v (xV t (xV t i).2.1).2.1 (xV t (xV t i).2.1).2.2.1 0 i (n1, m1)).1.2]) [.cells 128 (Ty.enc tTrace t ++ [.map 1]), .map 164 tVal tVal (narM (spanM t k) (s0, s1) v (xV t (xV t i).2.1).2.1 (xV t (xV t i).2.1).2.2.1 0 i (n1, m1)).2.1 (narM (spanM t k) (s0, s1) v (xV t (xV t i).2.1).2.1 (xV t (xV t i).2.1).2.2.1 0 i (n1, m1)).2.2, .cells 130 [.int .i64 0, .int .i64 0], .vec 164 tI ([v, a]), .cells 130 [.int .i64 s0, .int .i64 s1], (bDb1 t i), (bDb0 t i)] [0, 1] <|
  .need (inR .i64 (i + 1)) <|
  .stop (lp (bodyOf Tryd.f62) 0) (.c (.ptr 0 0 0 0) :: .c (.int .i64 v) :: .c (.int .i64 a) :: J2 (.junk :: .c (.ptr 2 0 0 0) :: .c (.ptr 3 0 0 0) :: J2 (.c (.ptr 4 0 0 0) :: .c (.int .i64 (i + 1)) :: .c (.ptr 5 0 0 0) :: .c (.ptr 6 0 0 0) :: J32 (J32 (J32 (J8 (J4 (J2 (.junk :: []))))))))) [.cells 128 (Ty.enc tTrace t ++ [.map 1]), .map 164 tVal tVal (narM (spanM t k) (s0, s1) v (xV t (xV t i).2.1).2.1 (xV t (xV t i).2.1).2.2.1 0 i (n1, m1)).2.1 (narM (spanM t k) (s0, s1) v (xV t (xV t i).2.1).2.1 (xV t (xV t i).2.1).2.2.1 0 i (n1, m1)).2.2, .cells 130 [.int .i64 0, .int .i64 0], .vec 164 tI ([v, a]), .cells 130 [.int .i64 (narM (spanM t k) (s0, s1) v (xV t (xV t i).2.1).2.1 (xV t (xV t i).2.1).2.2.1 0 i (n1, m1)).1.1, .int .i64 (narM (spanM t k) (s0, s1) v (xV t (xV t i).2.1).2.1 (xV t (xV t i).2.1).2.2.1 0 i (n1, m1)).1.2], (bDb1 t i), (bDb0 t i)])
  (.need (inR .i64 (1 - 0)) <|
  .callH 97 [.c (.ptr 0 0 0 0), .agg [.int .i64 s0, .int .i64 s1], .c (.int .i64 v), .c (.int .i64 (xV t (xV t i).2.1).2.2.1), .c (.int .i64 (xV t (xV t i).2.1).2.1), .c (.int .i64 (1 - 0)), .c (.int .i64 i)] [.cells 128 (Ty.enc tTrace t ++ [.map 1]), .map 164 tVal tVal n1 m1, .cells 130 [.int .i64 0, .int .i64 0], .vec 164 tI ([v, a]), .cells 130 [.int .i64 s0, .int .i64 s1], (bDb1 t i), (bDb0 t i)] (.agg [.int .i64 (narM (spanM t k) (s0, s1) v (xV t (xV t i).2.1).2.2.1 (xV t (xV t i).2.1).2.1 (1 - 0) i (n1, m1)).1.1, .int .i64 (narM (spanM t k) (s0, s1) v (xV t (xV t i).2.1).2.2.1 (xV t (xV t i).2.1).2.1 (1 - 0) i (n1, m1)).1.2]) [.cells 128 (Ty.enc tTrace t ++ [.map 1]), .map 164 tVal tVal (narM (spanM t k) (s0, s1) v (xV t (xV t i).2.1).2.2.1 (xV t (xV t i).2.1).2.1 (1 - 0) i (n1, m1)).2.1 (narM (spanM t k) (s0, s1) v (xV t (xV t i).2.1).2.2.1 (xV t (xV t i).2.1).2.1 (1 - 0) i (n1, m1)).2.2, .cells 130 [.int .i64 0, .int .i64 0], .vec 164 tI ([v, a]), .cells 130 [.int .i64 s0, .int .i64 s1], (bDb1 t i), (bDb0 t i)] [0, 1] <|
  .need (inR .i64 (i + 1)) <|
  .stop (lp (bodyOf Tryd.f62) 0) (.c (.ptr 0 0 0 0) :: .c (.int .i64 v) :: .c (.int .i64 a) :: J2 (.junk :: .c (.ptr 2 0 0 0) :: .c (.ptr 3 0 0 0) :: J2 (.c (.ptr 4 0 0 0) :: .c (.int .i64 (i + 1)) :: .c (.ptr 5 0 0 0) :: .c (.ptr 6 0 0 0) :: J32 (J32 (J32 (J8 (J4 (J2 (.junk :: []))))))))) [.cells 128 (Ty.enc tTrace t ++ [.map 1]), .map 164 tVal tVal (narM (spanM t k) (s0, s1) v (xV t (xV t i).2.1).2.2.1 (xV t (xV t i).2.1).2.1 (1 - 0) i (n1, m1)).2.1 (narM (spanM t k) (s0, s1) v (xV t (xV t i).2.1).2.2.1 (xV t (xV t i).2.1).2.1 (1 - 0) i (n1, m1)).2.2, .cells 130 [.int .i64 0, .int .i64 0], .vec 164 tI ([v, a]), .cells 130 [.int .i64 (narM (spanM t k) (s0, s1) v (xV t (xV t i).2.1).2.2.1 (xV t (xV t i).2.1).2.1 (1 - 0) i (n1, m1)).1.1, .int .i64 (narM (spanM t k) (s0, s1) v (xV t (xV t i).2.1).2.2.1 (xV t (xV t i).2.1).2.1 (1 - 0) i (n1, m1)).1.2], (bDb1 t i), (bDb0 t i)]))
theorem span_r13_R_ok (t : ETrace) (n : Nat) (m : EVal → Option EVal) (v : Int) (a : Int) (k : Nat) (i : Int) (n1 : Nat) (m1 : EVal → Option EVal) (s0 : Int) (s1 : Int) : aRound Tryd.prog (oc107 k) Tryd.f62 span_lv 3000 (rg (bodyOf Tryd.f62) 13) (.c (.ptr 0 0 0 0) :: .c (.int .i64 v) :: .c (.int .i64 a) :: J2 (.junk :: .c (.ptr 2 0 0 0) :: .c (.ptr 3 0 0 0) :: J2 (.c (.ptr 4 0 0 0) :: .c (.int .i64 i) :: .c (.ptr 5 0 0 0) :: .c (.ptr 6 0 0 0) :: J32 (J32 (J32 (J8 (J4 (J2 (.junk :: []))))))))) [.cells 128 (Ty.enc tTrace t ++ [.map 1]), .map 164 tVal tVal n1 m1, .cells 130 [.int .i64 0, .int .i64 0], .vec 164 tI ([v, a]), .cells 130 [.int .i64 s0, .int .i64 s1], (bDb1 t i), (bDb0 t i)] = span_r13_R t n m v a k i n1 m1 s0 s1 := by kernel_rfl
theorem span_r13 (t : ETrace) (n : Nat) (m : EVal → Option EVal) (v : Int) (a : Int) (k : Nat) (i : Int) (n1 : Nat) (m1 : EVal → Option EVal) (s0 : Int) (s1 : Int) (hd : DomC t) (hr : SpanC t k a) (hk : a.toNat ≤ k) (hl : a ≤ (t.2.2.2.1.length : Int)) (hL : t.2.2.2.1.length ≤ 300) (hv : 0 ≤ v ∧ v < a) (hm : KeptOk t (n1, m1)) (hi : v + 1 ≤ i ∧ i < a) (hg : guardOf t v i) (hn' : ∀ (n2 : Nat) (m2 : EVal → Option EVal) (x0 x1 : Int), KeptOk t (n2, m2) → RunN 2 Tryd.prog 62 (finQ Tryd.prog 2 (.agg (Ty.enc tVal ((loopM (spanM t k) t v (a - (i + 1)).toNat (i + 1) (x0, x1) (n2, m2)).1))) [.cells 128 (Ty.enc tTrace t ++ [.map 1]), .map 164 tVal tVal ((loopM (spanM t k) t v (a - (i + 1)).toNat (i + 1) (x0, x1) (n2, m2)).2.1 + 1) (updM (kt := tVal) (loopM (spanM t k) t v (a - (i + 1)).toNat (i + 1) (x0, x1) (n2, m2)).2.2 (v, a) (loopM (spanM t k) t v (a - (i + 1)).toNat (i + 1) (x0, x1) (n2, m2)).1)]) (lp (bodyOf Tryd.f62) 0) (.c (.ptr 0 0 0 0) :: .c (.int .i64 v) :: .c (.int .i64 a) :: J2 (.junk :: .c (.ptr 2 0 0 0) :: .c (.ptr 3 0 0 0) :: J2 (.c (.ptr 4 0 0 0) :: .c (.int .i64 (i + 1)) :: J32 (J32 (J32 (J16 (.junk :: []))))))) [.cells 128 (Ty.enc tTrace t ++ [.map 1]), .map 164 tVal tVal n2 m2, .cells 130 [.int .i64 0, .int .i64 0], .vec 164 tI ([v, a]), .cells 130 [.int .i64 x0, .int .i64 x1]])  : RunN 2 Tryd.prog 62 (finQ Tryd.prog 2 (.agg (Ty.enc tVal ((loopM (spanM t k) t v (a - i).toNat i (s0, s1) (n1, m1)).1))) [.cells 128 (Ty.enc tTrace t ++ [.map 1]), .map 164 tVal tVal ((loopM (spanM t k) t v (a - i).toNat i (s0, s1) (n1, m1)).2.1 + 1) (updM (kt := tVal) (loopM (spanM t k) t v (a - i).toNat i (s0, s1) (n1, m1)).2.2 (v, a) (loopM (spanM t k) t v (a - i).toNat i (s0, s1) (n1, m1)).1)]) (rg (bodyOf Tryd.f62) 13) (.c (.ptr 0 0 0 0) :: .c (.int .i64 v) :: .c (.int .i64 a) :: J2 (.junk :: .c (.ptr 2 0 0 0) :: .c (.ptr 3 0 0 0) :: J2 (.c (.ptr 4 0 0 0) :: .c (.int .i64 i) :: .c (.ptr 5 0 0 0) :: .c (.ptr 6 0 0 0) :: J32 (J32 (J32 (J8 (J4 (J2 (.junk :: []))))))))) [.cells 128 (Ty.enc tTrace t ++ [.map 1]), .map 164 tVal tVal n1 m1, .cells 130 [.int .i64 0, .int .i64 0], .vec 164 tI ([v, a]), .cells 130 [.int .i64 s0, .int .i64 s1], (bDb1 t i), (bDb0 t i)] :=
 Run.roundA (oc107 k) span_lv 3000 Tryd.func62 mixed (span_r13_R t n m v a k i n1 m1 s0 s1) (span_r13_R_ok t n m v a k i n1 m1 s0 s1) (by
  unfold span_r13_R
  obtain ⟨g1, g2, g3, g4, g5⟩ := id hg
  have hT : 0 ≤ (xV t i).2.1 ∧ (xV t i).2.1 < i := hd.tru i (by omega) (by omega) g1
  have hB : 0 ≤ (xV t (xV t i).2.1).2.1 ∧ (xV t (xV t i).2.1).2.1 < (xV t i).2.1 ∧ 0 ≤ (xV t (xV t i).2.1).2.2.1 ∧ (xV t (xV t i).2.1).2.2.1 < (xV t i).2.1 := hd.bin _ hT.1 (by omega) g2
  have hA : 0 ≤ (xV t (xV t i).2.1).2.1 ∧ (xV t (xV t i).2.1).2.1 < i := by omega
  have hBB : 0 ≤ (xV t (xV t i).2.1).2.2.1 ∧ (xV t (xV t i).2.1).2.2.1 < i := by omega
  refine g_iteD (fun h0 => ?_) (fun h0 => ?_)
  ·refine g_iteD (fun h1 => ?_) (fun h1 => ?_)
   ·refine g_callH (AFunH.frameB [0, 1] (narrow_fun t n1 m1 (s0, s1) v (xV t (xV t i).2.1).2.1 (xV t (xV t i).2.1).2.2.1 1 i k a hd hr hk hl (by omega) (by omega) (by omega) (by omega) hm) rfl rfl rfl rfl rfl rfl rfl) ?_
    refine g_need (by first | omega | exact ⟨rfl, lawArr⟩ | exact ⟨rfl, lawArr, by have := hm.small hL; omega⟩ | (rw [i64_iff]; omega) | (constructor <;> omega) | rfl | (simp; done)) ?_
    refine g_stop (RunN.keep [0, 1, 2, 3, 4] (true :: true :: true :: F2 (false :: true :: true :: F2 (true :: true :: F32 (F32 (F32 (F16 (false :: []))))))) (show ∀ k, k < 2 → ([0, 1, 2, 3, 4] : List Nat)[k]? = some k by decide) (by decide) rfl rfl ?_)
    have ht := hn' (narM (spanM t k) (s0, s1) v (xV t (xV t i).2.1).2.1 (xV t (xV t i).2.1).2.2.1 1 i (n1, m1)).2.1 (narM (spanM t k) (s0, s1) v (xV t (xV t i).2.1).2.1 (xV t (xV t i).2.1).2.2.1 1 i (n1, m1)).2.2 (narM (spanM t k) (s0, s1) v (xV t (xV t i).2.1).2.1 (xV t (xV t i).2.1).2.2.1 1 i (n1, m1)).1.1 (narM (spanM t k) (s0, s1) v (xV t (xV t i).2.1).2.1 (xV t (xV t i).2.1).2.2.1 1 i (n1, m1)).1.2 (by first | exact (narM_rel (V := fun (x : EMem) (_ : Unit) => KeptOk t x) (spanM_rel hd.toDomT hk hl) (m' := ()) hA hBB (by omega) hm).2 | exact (narM_rel (V := fun (x : EMem) (_ : Unit) => KeptOk t x) (spanM_rel hd.toDomT hk hl) (m' := ()) hBB hA (by omega) hm).2); first | (rw [loopM_1 (t := t) (v := v) (i := i) (a := a) (by omega) hg h1 (d := 1) (by unfold lessI insV; rw [if_pos h0])]; exact ht) | (rw [loopM_1 (t := t) (v := v) (i := i) (a := a) (by omega) hg h1 (d := 0) (by unfold lessI insV; rw [if_neg h0])]; exact ht) | (rw [loopM_2 (t := t) (v := v) (i := i) (a := a) (by omega) hg h1 (d := 1 - 1) (by unfold lessI insV; rw [if_pos h0])]; exact ht) | (rw [loopM_2 (t := t) (v := v) (i := i) (a := a) (by omega) hg h1 (d := 1 - 0) (by unfold lessI insV; rw [if_neg h0])]; exact ht)
   ·refine g_need (by first | omega | exact ⟨rfl, lawArr⟩ | exact ⟨rfl, lawArr, by have := hm.small hL; omega⟩ | (rw [i64_iff]; omega) | (constructor <;> omega) | rfl | (simp; done)) ?_
    refine g_callH (AFunH.frameB [0, 1] (narrow_fun t n1 m1 (s0, s1) v (xV t (xV t i).2.1).2.2.1 (xV t (xV t i).2.1).2.1 (1 - 1) i k a hd hr hk hl (by omega) (by omega) (by omega) (by omega) hm) rfl rfl rfl rfl rfl rfl rfl) ?_
    refine g_need (by first | omega | exact ⟨rfl, lawArr⟩ | exact ⟨rfl, lawArr, by have := hm.small hL; omega⟩ | (rw [i64_iff]; omega) | (constructor <;> omega) | rfl | (simp; done)) ?_
    refine g_stop (RunN.keep [0, 1, 2, 3, 4] (true :: true :: true :: F2 (false :: true :: true :: F2 (true :: true :: F32 (F32 (F32 (F16 (false :: []))))))) (show ∀ k, k < 2 → ([0, 1, 2, 3, 4] : List Nat)[k]? = some k by decide) (by decide) rfl rfl ?_)
    have ht := hn' (narM (spanM t k) (s0, s1) v (xV t (xV t i).2.1).2.2.1 (xV t (xV t i).2.1).2.1 (1 - 1) i (n1, m1)).2.1 (narM (spanM t k) (s0, s1) v (xV t (xV t i).2.1).2.2.1 (xV t (xV t i).2.1).2.1 (1 - 1) i (n1, m1)).2.2 (narM (spanM t k) (s0, s1) v (xV t (xV t i).2.1).2.2.1 (xV t (xV t i).2.1).2.1 (1 - 1) i (n1, m1)).1.1 (narM (spanM t k) (s0, s1) v (xV t (xV t i).2.1).2.2.1 (xV t (xV t i).2.1).2.1 (1 - 1) i (n1, m1)).1.2 (by first | exact (narM_rel (V := fun (x : EMem) (_ : Unit) => KeptOk t x) (spanM_rel hd.toDomT hk hl) (m' := ()) hA hBB (by omega) hm).2 | exact (narM_rel (V := fun (x : EMem) (_ : Unit) => KeptOk t x) (spanM_rel hd.toDomT hk hl) (m' := ()) hBB hA (by omega) hm).2); first | (rw [loopM_1 (t := t) (v := v) (i := i) (a := a) (by omega) hg h1 (d := 1) (by unfold lessI insV; rw [if_pos h0])]; exact ht) | (rw [loopM_1 (t := t) (v := v) (i := i) (a := a) (by omega) hg h1 (d := 0) (by unfold lessI insV; rw [if_neg h0])]; exact ht) | (rw [loopM_2 (t := t) (v := v) (i := i) (a := a) (by omega) hg h1 (d := 1 - 1) (by unfold lessI insV; rw [if_pos h0])]; exact ht) | (rw [loopM_2 (t := t) (v := v) (i := i) (a := a) (by omega) hg h1 (d := 1 - 0) (by unfold lessI insV; rw [if_neg h0])]; exact ht)
  ·refine g_iteD (fun h1 => ?_) (fun h1 => ?_)
   ·refine g_callH (AFunH.frameB [0, 1] (narrow_fun t n1 m1 (s0, s1) v (xV t (xV t i).2.1).2.1 (xV t (xV t i).2.1).2.2.1 0 i k a hd hr hk hl (by omega) (by omega) (by omega) (by omega) hm) rfl rfl rfl rfl rfl rfl rfl) ?_
    refine g_need (by first | omega | exact ⟨rfl, lawArr⟩ | exact ⟨rfl, lawArr, by have := hm.small hL; omega⟩ | (rw [i64_iff]; omega) | (constructor <;> omega) | rfl | (simp; done)) ?_
    refine g_stop (RunN.keep [0, 1, 2, 3, 4] (true :: true :: true :: F2 (false :: true :: true :: F2 (true :: true :: F32 (F32 (F32 (F16 (false :: []))))))) (show ∀ k, k < 2 → ([0, 1, 2, 3, 4] : List Nat)[k]? = some k by decide) (by decide) rfl rfl ?_)
    have ht := hn' (narM (spanM t k) (s0, s1) v (xV t (xV t i).2.1).2.1 (xV t (xV t i).2.1).2.2.1 0 i (n1, m1)).2.1 (narM (spanM t k) (s0, s1) v (xV t (xV t i).2.1).2.1 (xV t (xV t i).2.1).2.2.1 0 i (n1, m1)).2.2 (narM (spanM t k) (s0, s1) v (xV t (xV t i).2.1).2.1 (xV t (xV t i).2.1).2.2.1 0 i (n1, m1)).1.1 (narM (spanM t k) (s0, s1) v (xV t (xV t i).2.1).2.1 (xV t (xV t i).2.1).2.2.1 0 i (n1, m1)).1.2 (by first | exact (narM_rel (V := fun (x : EMem) (_ : Unit) => KeptOk t x) (spanM_rel hd.toDomT hk hl) (m' := ()) hA hBB (by omega) hm).2 | exact (narM_rel (V := fun (x : EMem) (_ : Unit) => KeptOk t x) (spanM_rel hd.toDomT hk hl) (m' := ()) hBB hA (by omega) hm).2); first | (rw [loopM_1 (t := t) (v := v) (i := i) (a := a) (by omega) hg h1 (d := 1) (by unfold lessI insV; rw [if_pos h0])]; exact ht) | (rw [loopM_1 (t := t) (v := v) (i := i) (a := a) (by omega) hg h1 (d := 0) (by unfold lessI insV; rw [if_neg h0])]; exact ht) | (rw [loopM_2 (t := t) (v := v) (i := i) (a := a) (by omega) hg h1 (d := 1 - 1) (by unfold lessI insV; rw [if_pos h0])]; exact ht) | (rw [loopM_2 (t := t) (v := v) (i := i) (a := a) (by omega) hg h1 (d := 1 - 0) (by unfold lessI insV; rw [if_neg h0])]; exact ht)
   ·refine g_need (by first | omega | exact ⟨rfl, lawArr⟩ | exact ⟨rfl, lawArr, by have := hm.small hL; omega⟩ | (rw [i64_iff]; omega) | (constructor <;> omega) | rfl | (simp; done)) ?_
    refine g_callH (AFunH.frameB [0, 1] (narrow_fun t n1 m1 (s0, s1) v (xV t (xV t i).2.1).2.2.1 (xV t (xV t i).2.1).2.1 (1 - 0) i k a hd hr hk hl (by omega) (by omega) (by omega) (by omega) hm) rfl rfl rfl rfl rfl rfl rfl) ?_
    refine g_need (by first | omega | exact ⟨rfl, lawArr⟩ | exact ⟨rfl, lawArr, by have := hm.small hL; omega⟩ | (rw [i64_iff]; omega) | (constructor <;> omega) | rfl | (simp; done)) ?_
    refine g_stop (RunN.keep [0, 1, 2, 3, 4] (true :: true :: true :: F2 (false :: true :: true :: F2 (true :: true :: F32 (F32 (F32 (F16 (false :: []))))))) (show ∀ k, k < 2 → ([0, 1, 2, 3, 4] : List Nat)[k]? = some k by decide) (by decide) rfl rfl ?_)
    have ht := hn' (narM (spanM t k) (s0, s1) v (xV t (xV t i).2.1).2.2.1 (xV t (xV t i).2.1).2.1 (1 - 0) i (n1, m1)).2.1 (narM (spanM t k) (s0, s1) v (xV t (xV t i).2.1).2.2.1 (xV t (xV t i).2.1).2.1 (1 - 0) i (n1, m1)).2.2 (narM (spanM t k) (s0, s1) v (xV t (xV t i).2.1).2.2.1 (xV t (xV t i).2.1).2.1 (1 - 0) i (n1, m1)).1.1 (narM (spanM t k) (s0, s1) v (xV t (xV t i).2.1).2.2.1 (xV t (xV t i).2.1).2.1 (1 - 0) i (n1, m1)).1.2 (by first | exact (narM_rel (V := fun (x : EMem) (_ : Unit) => KeptOk t x) (spanM_rel hd.toDomT hk hl) (m' := ()) hA hBB (by omega) hm).2 | exact (narM_rel (V := fun (x : EMem) (_ : Unit) => KeptOk t x) (spanM_rel hd.toDomT hk hl) (m' := ()) hBB hA (by omega) hm).2); first | (rw [loopM_1 (t := t) (v := v) (i := i) (a := a) (by omega) hg h1 (d := 1) (by unfold lessI insV; rw [if_pos h0])]; exact ht) | (rw [loopM_1 (t := t) (v := v) (i := i) (a := a) (by omega) hg h1 (d := 0) (by unfold lessI insV; rw [if_neg h0])]; exact ht) | (rw [loopM_2 (t := t) (v := v) (i := i) (a := a) (by omega) hg h1 (d := 1 - 1) (by unfold lessI insV; rw [if_pos h0])]; exact ht) | (rw [loopM_2 (t := t) (v := v) (i := i) (a := a) (by omega) hg h1 (d := 1 - 0) (by unfold lessI insV; rw [if_neg h0])]; exact ht)
  )
theorem span_l0 (t : ETrace) (n : Nat) (m : EVal → Option EVal) (v : Int) (a : Int) (k : Nat) (i : Int) (n1 : Nat) (m1 : EVal → Option EVal) (s0 : Int) (s1 : Int) (hd : DomC t) (hr : SpanC t k a) (hk : a.toNat ≤ k) (hl : a ≤ (t.2.2.2.1.length : Int)) (hL : t.2.2.2.1.length ≤ 300) (hv : 0 ≤ v ∧ v < a) (hm : KeptOk t (n1, m1)) (hi : v + 1 ≤ i ∧ i ≤ a) : RunN 2 Tryd.prog 62 (finQ Tryd.prog 2 (.agg (Ty.enc tVal ((loopM (spanM t k) t v (a - i).toNat i (s0, s1) (n1, m1)).1))) [.cells 128 (Ty.enc tTrace t ++ [.map 1]), .map 164 tVal tVal ((loopM (spanM t k) t v (a - i).toNat i (s0, s1) (n1, m1)).2.1 + 1) (updM (kt := tVal) (loopM (spanM t k) t v (a - i).toNat i (s0, s1) (n1, m1)).2.2 (v, a) (loopM (spanM t k) t v (a - i).toNat i (s0, s1) (n1, m1)).1)]) (lp (bodyOf Tryd.f62) 0) (.c (.ptr 0 0 0 0) :: .c (.int .i64 v) :: .c (.int .i64 a) :: J2 (.junk :: .c (.ptr 2 0 0 0) :: .c (.ptr 3 0 0 0) :: J2 (.c (.ptr 4 0 0 0) :: .c (.int .i64 i) :: J32 (J32 (J32 (J16 (.junk :: []))))))) [.cells 128 (Ty.enc tTrace t ++ [.map 1]), .map 164 tVal tVal n1 m1, .cells 130 [.int .i64 0, .int .i64 0], .vec 164 tI ([v, a]), .cells 130 [.int .i64 s0, .int .i64 s1]] :=
 Run.roundA (oc107 k) span_lv 3000 Tryd.func62 mixed (span_l0_R t n m v a k i n1 m1 s0 s1) (span_l0_R_ok t n m v a k i n1 m1 s0 s1) (by
  unfold span_l0_R
  have hT : (xV t i).1 = 5 → i < a → 0 ≤ (xV t i).2.1 ∧ (xV t i).2.1 < i := fun h q => hd.tru i (by omega) (by omega) h
  refine g_iteD (fun h0 => ?_) (fun h0 => ?_)
  ·refine g_need (by omega) ?_
   refine g_need (by omega) ?_
   refine g_iteND (fun h1 => ?_) (fun h1 => ?_)
   ·refine g_need (by first | (have := hT (by assumption) (by assumption); omega) | omega | exact ⟨rfl, lawArr⟩ | exact ⟨rfl, lawArr, by have := hm.small hL; omega⟩ | (rw [i64_iff]; omega) | (constructor <;> omega) | rfl | (simp; done)) ?_
    refine g_stop (RunN.keep [0, 1, 2, 3, 4] (true :: true :: true :: F2 (false :: true :: true :: F2 (true :: true :: F32 (F32 (F32 (F16 (false :: []))))))) (show ∀ k, k < 2 → ([0, 1, 2, 3, 4] : List Nat)[k]? = some k by decide) (by decide) rfl rfl ?_)
    have ht := span_l0 t n m v a k (i + 1) n1 m1 s0 s1 hd hr hk hl hL hv hm (by omega); rw [loopM_no (t := t) (v := v) (i := i) (by omega) (by rw [guard_xV]; rintro ⟨g1, g2, g3, g4, g5⟩; first | omega | (simp_all; done))]; exact ht
   ·refine g_need (by omega) ?_
    refine g_need (by omega) ?_
    refine g_iteND (fun h2 => ?_) (fun h2 => ?_)
    ·refine g_need (by first | (have := hT (by assumption) (by assumption); omega) | omega | exact ⟨rfl, lawArr⟩ | exact ⟨rfl, lawArr, by have := hm.small hL; omega⟩ | (rw [i64_iff]; omega) | (constructor <;> omega) | rfl | (simp; done)) ?_
     refine g_stop (RunN.keep [0, 1, 2, 3, 4] (true :: true :: true :: F2 (false :: true :: true :: F2 (true :: true :: F32 (F32 (F32 (F16 (false :: []))))))) (show ∀ k, k < 2 → ([0, 1, 2, 3, 4] : List Nat)[k]? = some k by decide) (by decide) rfl rfl ?_)
     have ht := span_l0 t n m v a k (i + 1) n1 m1 s0 s1 hd hr hk hl hL hv hm (by omega); rw [loopM_no (t := t) (v := v) (i := i) (by omega) (by rw [guard_xV]; rintro ⟨g1, g2, g3, g4, g5⟩; first | omega | (simp_all; done))]; exact ht
    ·refine g_iteND (fun h3 => ?_) (fun h3 => ?_)
     ·refine g_iteND (fun h4 => ?_) (fun h4 => ?_)
      ·refine g_need (by first | (have := hT (by assumption) (by assumption); omega) | omega | exact ⟨rfl, lawArr⟩ | exact ⟨rfl, lawArr, by have := hm.small hL; omega⟩ | (rw [i64_iff]; omega) | (constructor <;> omega) | rfl | (simp; done)) ?_
       refine g_stop (RunN.keep [0, 1, 2, 3, 4] (true :: true :: true :: F2 (false :: true :: true :: F2 (true :: true :: F32 (F32 (F32 (F16 (false :: []))))))) (show ∀ k, k < 2 → ([0, 1, 2, 3, 4] : List Nat)[k]? = some k by decide) (by decide) rfl rfl ?_)
       have ht := span_l0 t n m v a k (i + 1) n1 m1 s0 s1 hd hr hk hl hL hv hm (by omega); rw [loopM_no (t := t) (v := v) (i := i) (by omega) (by rw [guard_xV]; rintro ⟨g1, g2, g3, g4, g5⟩; first | omega | (simp_all; done))]; exact ht
      ·refine g_iteND (fun h5 => ?_) (fun h5 => ?_)
       ·refine g_iteND (fun h6 => ?_) (fun h6 => ?_)
        ·refine g_need (by first | (have := hT (by assumption) (by assumption); omega) | omega | exact ⟨rfl, lawArr⟩ | exact ⟨rfl, lawArr, by have := hm.small hL; omega⟩ | (rw [i64_iff]; omega) | (constructor <;> omega) | rfl | (simp; done)) ?_
         refine g_stop (RunN.keep [0, 1, 2, 3, 4] (true :: true :: true :: F2 (false :: true :: true :: F2 (true :: true :: F32 (F32 (F32 (F16 (false :: []))))))) (show ∀ k, k < 2 → ([0, 1, 2, 3, 4] : List Nat)[k]? = some k by decide) (by decide) rfl rfl ?_)
         have ht := span_l0 t n m v a k (i + 1) n1 m1 s0 s1 hd hr hk hl hL hv hm (by omega); rw [loopM_no (t := t) (v := v) (i := i) (by omega) (by rw [guard_xV]; rintro ⟨g1, g2, g3, g4, g5⟩; first | omega | (simp_all; done))]; exact ht
        ·refine g_callH (AFunH.frameB [0, 1] (ints_fun t n1 m1 (xV t i).2.1 ⟨by omega, by omega⟩) rfl rfl rfl rfl rfl rfl rfl) ?_
         refine g_iteN (fun h7 => ?_) (fun h7 => ?_)
         ·refine g_need (by first | (have := hT (by assumption) (by assumption); omega) | omega | exact ⟨rfl, lawArr⟩ | exact ⟨rfl, lawArr, by have := hm.small hL; omega⟩ | (rw [i64_iff]; omega) | (constructor <;> omega) | rfl | (simp; done)) ?_
          refine g_stop (RunN.keep [0, 1, 2, 3, 4] (true :: true :: true :: F2 (false :: true :: true :: F2 (true :: true :: F32 (F32 (F32 (F16 (false :: []))))))) (show ∀ k, k < 2 → ([0, 1, 2, 3, 4] : List Nat)[k]? = some k by decide) (by decide) rfl rfl ?_)
          have ht := span_l0 t n m v a k (i + 1) n1 m1 s0 s1 hd hr hk hl hL hv hm (by omega); rw [loopM_no (t := t) (v := v) (i := i) (by omega) (by rw [guard_xV]; rintro ⟨g1, g2, g3, g4, g5⟩; first | omega | (simp_all; done))]; exact ht
         ·refine g_stop (RunN.keep [0, 1, 2, 3, 4, 5, 6] (true :: true :: true :: F2 (false :: true :: true :: F2 (true :: true :: true :: true :: F32 (F32 (F32 (F8 (F4 (F2 (false :: []))))))))) (show ∀ k, k < 2 → ([0, 1, 2, 3, 4, 5, 6] : List Nat)[k]? = some k by decide) (by decide) rfl rfl ?_)
          exact span_r13 t n m v a k i n1 m1 s0 s1 hd hr hk hl hL hv hm (by omega) (by rw [guard_xV]; refine ⟨by omega, by omega, by omega, by omega, ?_⟩; first | assumption | (simp_all; done)) (fun n2 m2 x0 x1 q => span_l0 t n m v a k (i + 1) n2 m2 x0 x1 hd hr hk hl hL hv q (by omega))
       ·refine g_callH (AFunH.frameB [0, 1] (ints_fun t n1 m1 (xV t i).2.1 ⟨by omega, by omega⟩) rfl rfl rfl rfl rfl rfl rfl) ?_
        refine g_iteN (fun h6 => ?_) (fun h6 => ?_)
        ·refine g_need (by first | (have := hT (by assumption) (by assumption); omega) | omega | exact ⟨rfl, lawArr⟩ | exact ⟨rfl, lawArr, by have := hm.small hL; omega⟩ | (rw [i64_iff]; omega) | (constructor <;> omega) | rfl | (simp; done)) ?_
         refine g_stop (RunN.keep [0, 1, 2, 3, 4] (true :: true :: true :: F2 (false :: true :: true :: F2 (true :: true :: F32 (F32 (F32 (F16 (false :: []))))))) (show ∀ k, k < 2 → ([0, 1, 2, 3, 4] : List Nat)[k]? = some k by decide) (by decide) rfl rfl ?_)
         have ht := span_l0 t n m v a k (i + 1) n1 m1 s0 s1 hd hr hk hl hL hv hm (by omega); rw [loopM_no (t := t) (v := v) (i := i) (by omega) (by rw [guard_xV]; rintro ⟨g1, g2, g3, g4, g5⟩; first | omega | (simp_all; done))]; exact ht
        ·refine g_stop (RunN.keep [0, 1, 2, 3, 4, 5, 6] (true :: true :: true :: F2 (false :: true :: true :: F2 (true :: true :: true :: true :: F32 (F32 (F32 (F8 (F4 (F2 (false :: []))))))))) (show ∀ k, k < 2 → ([0, 1, 2, 3, 4, 5, 6] : List Nat)[k]? = some k by decide) (by decide) rfl rfl ?_)
         exact span_r13 t n m v a k i n1 m1 s0 s1 hd hr hk hl hL hv hm (by omega) (by rw [guard_xV]; refine ⟨by omega, by omega, by omega, by omega, ?_⟩; first | assumption | (simp_all; done)) (fun n2 m2 x0 x1 q => span_l0 t n m v a k (i + 1) n2 m2 x0 x1 hd hr hk hl hL hv q (by omega))
     ·refine g_iteND (fun h4 => ?_) (fun h4 => ?_)
      ·refine g_iteND (fun h5 => ?_) (fun h5 => ?_)
       ·refine g_need (by first | (have := hT (by assumption) (by assumption); omega) | omega | exact ⟨rfl, lawArr⟩ | exact ⟨rfl, lawArr, by have := hm.small hL; omega⟩ | (rw [i64_iff]; omega) | (constructor <;> omega) | rfl | (simp; done)) ?_
        refine g_stop (RunN.keep [0, 1, 2, 3, 4] (true :: true :: true :: F2 (false :: true :: true :: F2 (true :: true :: F32 (F32 (F32 (F16 (false :: []))))))) (show ∀ k, k < 2 → ([0, 1, 2, 3, 4] : List Nat)[k]? = some k by decide) (by decide) rfl rfl ?_)
        have ht := span_l0 t n m v a k (i + 1) n1 m1 s0 s1 hd hr hk hl hL hv hm (by omega); rw [loopM_no (t := t) (v := v) (i := i) (by omega) (by rw [guard_xV]; rintro ⟨g1, g2, g3, g4, g5⟩; first | omega | (simp_all; done))]; exact ht
       ·refine g_callH (AFunH.frameB [0, 1] (ints_fun t n1 m1 (xV t i).2.1 ⟨by omega, by omega⟩) rfl rfl rfl rfl rfl rfl rfl) ?_
        refine g_iteN (fun h6 => ?_) (fun h6 => ?_)
        ·refine g_need (by first | (have := hT (by assumption) (by assumption); omega) | omega | exact ⟨rfl, lawArr⟩ | exact ⟨rfl, lawArr, by have := hm.small hL; omega⟩ | (rw [i64_iff]; omega) | (constructor <;> omega) | rfl | (simp; done)) ?_
         refine g_stop (RunN.keep [0, 1, 2, 3, 4] (true :: true :: true :: F2 (false :: true :: true :: F2 (true :: true :: F32 (F32 (F32 (F16 (false :: []))))))) (show ∀ k, k < 2 → ([0, 1, 2, 3, 4] : List Nat)[k]? = some k by decide) (by decide) rfl rfl ?_)
         have ht := span_l0 t n m v a k (i + 1) n1 m1 s0 s1 hd hr hk hl hL hv hm (by omega); rw [loopM_no (t := t) (v := v) (i := i) (by omega) (by rw [guard_xV]; rintro ⟨g1, g2, g3, g4, g5⟩; first | omega | (simp_all; done))]; exact ht
        ·refine g_stop (RunN.keep [0, 1, 2, 3, 4, 5, 6] (true :: true :: true :: F2 (false :: true :: true :: F2 (true :: true :: true :: true :: F32 (F32 (F32 (F8 (F4 (F2 (false :: []))))))))) (show ∀ k, k < 2 → ([0, 1, 2, 3, 4, 5, 6] : List Nat)[k]? = some k by decide) (by decide) rfl rfl ?_)
         exact span_r13 t n m v a k i n1 m1 s0 s1 hd hr hk hl hL hv hm (by omega) (by rw [guard_xV]; refine ⟨by omega, by omega, by omega, by omega, ?_⟩; first | assumption | (simp_all; done)) (fun n2 m2 x0 x1 q => span_l0 t n m v a k (i + 1) n2 m2 x0 x1 hd hr hk hl hL hv q (by omega))
      ·refine g_callH (AFunH.frameB [0, 1] (ints_fun t n1 m1 (xV t i).2.1 ⟨by omega, by omega⟩) rfl rfl rfl rfl rfl rfl rfl) ?_
       refine g_iteN (fun h5 => ?_) (fun h5 => ?_)
       ·refine g_need (by first | (have := hT (by assumption) (by assumption); omega) | omega | exact ⟨rfl, lawArr⟩ | exact ⟨rfl, lawArr, by have := hm.small hL; omega⟩ | (rw [i64_iff]; omega) | (constructor <;> omega) | rfl | (simp; done)) ?_
        refine g_stop (RunN.keep [0, 1, 2, 3, 4] (true :: true :: true :: F2 (false :: true :: true :: F2 (true :: true :: F32 (F32 (F32 (F16 (false :: []))))))) (show ∀ k, k < 2 → ([0, 1, 2, 3, 4] : List Nat)[k]? = some k by decide) (by decide) rfl rfl ?_)
        have ht := span_l0 t n m v a k (i + 1) n1 m1 s0 s1 hd hr hk hl hL hv hm (by omega); rw [loopM_no (t := t) (v := v) (i := i) (by omega) (by rw [guard_xV]; rintro ⟨g1, g2, g3, g4, g5⟩; first | omega | (simp_all; done))]; exact ht
       ·refine g_stop (RunN.keep [0, 1, 2, 3, 4, 5, 6] (true :: true :: true :: F2 (false :: true :: true :: F2 (true :: true :: true :: true :: F32 (F32 (F32 (F8 (F4 (F2 (false :: []))))))))) (show ∀ k, k < 2 → ([0, 1, 2, 3, 4, 5, 6] : List Nat)[k]? = some k by decide) (by decide) rfl rfl ?_)
        exact span_r13 t n m v a k i n1 m1 s0 s1 hd hr hk hl hL hv hm (by omega) (by rw [guard_xV]; refine ⟨by omega, by omega, by omega, by omega, ?_⟩; first | assumption | (simp_all; done)) (fun n2 m2 x0 x1 q => span_l0 t n m v a k (i + 1) n2 m2 x0 x1 hd hr hk hl hL hv q (by omega))
  ·refine g_need (by first | (have := hT (by assumption) (by assumption); omega) | omega | exact ⟨rfl, lawArr⟩ | exact ⟨rfl, lawArr, by have := hm.small hL; omega⟩ | (rw [i64_iff]; omega) | (constructor <;> omega) | rfl | (simp; done)) ?_
   refine g_need (by first | (have := hT (by assumption) (by assumption); omega) | omega | exact ⟨rfl, lawArr⟩ | exact ⟨rfl, lawArr, by have := hm.small hL; omega⟩ | (rw [i64_iff]; omega) | (constructor <;> omega) | rfl | (simp; done)) ?_
   rw [show (a - i).toNat = 0 by omega]
   refine g_fin ?_
   exact g_end [0, 1] (show ∀ k, k < 2 → ([0, 1] : List Nat)[k]? = some k by decide) (by decide) (⟨⟨rfl, rfl⟩, ⟨rfl, rfl⟩, trivial⟩) ⟨leB.refl _, rfl, trivial⟩
  )
 termination_by (a - i).toNat
 decreasing_by all_goals omega
theorem span_fun (t : ETrace) (n : Nat) (m : EVal → Option EVal) (v : Int) (a : Int) (k : Nat) (hd : DomC t) (hr : SpanC t k a) (hk : a.toNat ≤ k) (hl : a ≤ (t.2.2.2.1.length : Int)) (hL : t.2.2.2.1.length ≤ 300) (hv : 0 ≤ v ∧ v < a) (hm : KeptOk t (n, m)) : AFunH Tryd.prog 62 [.c (.ptr 0 0 0 0), .c (.int .i64 v), .c (.int .i64 a)] [.cells 128 (Ty.enc tTrace t ++ [.map 1]), .map 164 tVal tVal n m] (.agg (Ty.enc tVal ((spanM t (k + 1) v a (n, m)).1))) [.cells 128 (Ty.enc tTrace t ++ [.map 1]), .map 164 tVal tVal (spanM t (k + 1) v a (n, m)).2.1 (spanM t (k + 1) v a (n, m)).2.2] (List.range 2) :=
 AFunH.ofL (oc107 k) span_lv 3000 Tryd.func62 mixed rfl (by decide) (Nat.le_of_ble_eq_true rfl) rfl rfl (Nat.le_of_ble_eq_true rfl) _ (span_T_ok t n m v a k) fun hF => by
  unfold span_T
  refine g_need (by first | omega | exact ⟨rfl, lawArr⟩ | exact ⟨rfl, lawArr, by have := hm.small hL; omega⟩ | (rw [i64_iff]; omega) | (constructor <;> omega) | rfl | (simp; done)) ?_
  refine g_need (by first | omega | exact ⟨rfl, lawArr⟩ | exact ⟨rfl, lawArr, by have := hm.small hL; omega⟩ | (rw [i64_iff]; omega) | (constructor <;> omega) | rfl | (simp; done)) ?_
  refine g_need (by first | omega | exact ⟨rfl, lawArr⟩ | exact ⟨rfl, lawArr, by have := hm.small hL; omega⟩ | (rw [i64_iff]; omega) | (constructor <;> omega) | rfl | (simp; done)) ?_
  refine g_ite (fun h0 => ?_) (fun h0 => ?_)
  ·rw [spanM_hit (show (m (v, a)).isSome = true from h0)]
   refine g_fin ?_
   exact g_end [0, 1] (show ∀ k, k < 2 → ([0, 1] : List Nat)[k]? = some k by decide) (by decide) (⟨⟨rfl, rfl⟩, ⟨rfl, rfl⟩, trivial⟩) ⟨leB.refl _, rfl, trivial⟩
  ·refine g_callH (AFunH.frameB [0, 1] (itself_fun t n m v k a hd hr hk hl hm ⟨by omega, by omega⟩) rfl rfl rfl rfl rfl rfl rfl) ?_
   refine g_need (by first | omega | exact ⟨rfl, lawArr⟩ | exact ⟨rfl, lawArr, by have := hm.small hL; omega⟩ | (rw [i64_iff]; omega) | (constructor <;> omega) | rfl | (simp; done)) ?_
   refine g_stop (RunN.keep [0, 1, 2, 3, 5] (true :: true :: true :: F2 (false :: true :: true :: F2 (true :: true :: F32 (F32 (F32 (F16 (false :: []))))))) (show ∀ k, k < 2 → ([0, 1, 2, 3, 5] : List Nat)[k]? = some k by decide) (by decide) rfl rfl ?_)
   have ht := span_l0 t n m v a k (v + 1) (itselfM (spanM t k) t v (n, m)).2.1 (itselfM (spanM t k) t v (n, m)).2.2 (itselfM (spanM t k) t v (n, m)).1.1 (itselfM (spanM t k) t v (n, m)).1.2 hd hr hk hl hL hv ((itselfM_rel (V := fun (x : EMem) (_ : Unit) => KeptOk t x) (SameX.refl t) hd.toDomT (spanM_rel hd.toDomT hk hl) (by omega) (by omega) (by omega) hm (m' := ())).2) (by omega); rw [spanM_miss (show (m (v, a)).isSome = false from h0)]; exact ht

theorem span_all {t : ETrace} (hd : DomC t) (hL : t.2.2.2.1.length ≤ 300) : ∀ (k : Nat) (v a : Int) (n : Nat) (m : EVal → Option EVal), a.toNat < k → 0 ≤ v → v < a → a ≤ (t.2.2.2.1.length : Int) → KeptOk t (n, m) →
  AFunH Tryd.prog 62 [.c (.ptr 0 0 0 0), .c (.int .i64 v), .c (.int .i64 a)] [.cells 128 (Ty.enc tTrace t ++ [.map 1]), .map 164 tVal tVal n m] (.agg (Ty.enc tVal (spanM t k v a (n, m)).1)) [.cells 128 (Ty.enc tTrace t ++ [.map 1]), .map 164 tVal tVal (spanM t k v a (n, m)).2.1 (spanM t k v a (n, m)).2.2] (List.range 2)
 | 0, _, _, _, _, h, _, _, _, _ => absurd h (Nat.not_lt_zero _)
 | k + 1, v, a, n, m, h, h0, hv, hl, hm => span_fun t n m v a k hd (fun v' a' n' m' q0 q1 q2 q3 => span_all hd hL k v' a' n' m' (by omega) q0 q1 (by omega) q3) (by omega) hl hL ⟨h0, hv⟩ hm
theorem kept_nil (t : ETrace) : KeptOk t (0, fun _ => none) := ⟨fun v a s h => (by cases h), Nat.zero_le _⟩
end Go.Proofs.YtefkifdhjabdiaaDoor
namespace Go.Proofs.YtefkifdhjabdiaaDoor
set_option maxHeartbeats 4000000
set_option linter.unusedVariables false
set_option linter.unusedSimpArgs false
set_option maxRecDepth 100000
def divM {M : Type} (rec : Int → Int → M → EVal × M) (t : ETrace) (i : Int) (w : M) : Bool × M :=
 if (0 : Int) < (rec (xV t i).2.2.1 i (rec (xV t i).2.1 i w).2).1.1 then if ((-1) : Int) < (rec (xV t i).2.2.1 i (rec (xV t i).2.1 i w).2).1.1 then (true, (rec (xV t i).2.2.1 i (rec (xV t i).2.1 i w).2).2)
  else if (rec (xV t i).2.2.1 i (rec (xV t i).2.1 i w).2).1.2 < (-1) then (true, (rec (xV t i).2.2.1 i (rec (xV t i).2.1 i w).2).2)
   else (decide (((-2147483648) : Int) < (rec (xV t i).2.1 i w).1.1), (rec (xV t i).2.2.1 i (rec (xV t i).2.1 i w).2).2)
 else if (rec (xV t i).2.2.1 i (rec (xV t i).2.1 i w).2).1.2 < 0 then if ((-1) : Int) < (rec (xV t i).2.2.1 i (rec (xV t i).2.1 i w).2).1.1 then (true, (rec (xV t i).2.2.1 i (rec (xV t i).2.1 i w).2).2)
   else if (rec (xV t i).2.2.1 i (rec (xV t i).2.1 i w).2).1.2 < (-1) then (true, (rec (xV t i).2.2.1 i (rec (xV t i).2.1 i w).2).2)
    else (decide (((-2147483648) : Int) < (rec (xV t i).2.1 i w).1.1), (rec (xV t i).2.2.1 i (rec (xV t i).2.1 i w).2).2)
  else (false, (rec (xV t i).2.2.1 i (rec (xV t i).2.1 i w).2).2)
def sumM {M : Type} (rec : Int → Int → M → EVal × M) (t : ETrace) (i : Int) (w : M) : Bool × M :=
 if ((-2147483648) : Int) ≤ (reckM rec t i w).1.1.1 then (decide ((reckM rec t i w).1.1.2 ≤ 2147483647), (reckM rec t i w).2)
 else (false, (reckM rec t i w).2)
def nev7 {M : Type} (rec : Int → Int → M → EVal × M) (t : ETrace) (i : Int) (w : M) : Bool × M :=
 if intsF t i = true then if (xV t i).2.2.2.2.1 = 6 then if (xV t i).2.2.2.2.1 = 6 then divM rec t i w
   else if (xV t i).2.2.2.2.1 = 3 then if (xV t i).2.2.2.2.1 = 3 then sumM rec t i w
     else (true, w)
    else if (xV t i).2.2.2.2.1 = 4 then if (xV t i).2.2.2.2.1 = 4 then sumM rec t i w
      else (true, w)
     else if (xV t i).2.2.2.2.1 = 5 then sumM rec t i w
      else (true, w)
  else if (xV t i).2.2.2.2.1 = 7 then divM rec t i w
   else if (xV t i).2.2.2.2.1 = 3 then if (xV t i).2.2.2.2.1 = 3 then sumM rec t i w
     else (true, w)
    else if (xV t i).2.2.2.2.1 = 4 then if (xV t i).2.2.2.2.1 = 4 then sumM rec t i w
      else (true, w)
     else if (xV t i).2.2.2.2.1 = 5 then sumM rec t i w
      else (true, w)
 else (false, w)
def neverM {M : Type} (rec : Int → Int → M → EVal × M) (t : ETrace) (i : Int) (w : M) : Bool × M :=
 if (xV t i).1 = 8 then if (xV t i).2.2.2.2.1 = 11 then (true, w)
  else if kindF t (xV t i).2.1 i = 3 then (true, w)
   else if kindF t (xV t i).2.1 i = 2 then (decide (((-2147483648) : Int) < (rec (xV t i).2.1 i w).1.1), (rec (xV t i).2.1 i w).2)
    else (false, w)
 else if kindF t (xV t i).2.1 i = 3 then if kindF t (xV t i).2.2.1 i = 3 then ((!(decide ((xV t i).2.2.2.2.1 = 7))), w)
   else nev7 rec t i w
  else nev7 rec t i w
noncomputable def oc110 (k : Nat) : Orc where
 pure := fun f args => match f, args with
  | 21, [a0, a1, a2] => match dA tTrace a0, dA tI a1, dA tI a2 with
   | some x0, some x1, some x2 => some (.c (.int .i64 (kindF x0 x1 x2)))
   | _, _, _ => none
  | _, _ => none
 heap := fun f args H => match f, args with
  | 62, [.one (.c (.ptr b0 0 0 0)), a1, a2] => match cellsAs 128 H[b0]? with
   | some [c0_0_0, c0_0_1, c0_0_2, c0_0_3, c0_0_4, c0_0_5, c0_0_6, c0_0_7, c0_0_8, c0_0_9, c0_0_10, c0_0_11, c0_0_12, .map b1] => (match dA tI a1, dA tI a2, dCs tTrace [c0_0_0, c0_0_1, c0_0_2, c0_0_3, c0_0_4, c0_0_5, c0_0_6, c0_0_7, c0_0_8, c0_0_9, c0_0_10, c0_0_11, c0_0_12], mapAs 164 tVal tVal H[b1]? with
    | some x1, some x2, some y0_0, some (n1, y1) => hres [b0, b1] H (.agg (Ty.enc tVal ((spanM y0_0 k x1 x2 (n1, y1)).1))) [.cells 128 [.int .i64 y0_0.1, .int .i64 y0_0.2.1, .int .i64 y0_0.2.2.1, .ro tIns y0_0.2.2.2.1, .ro tExit y0_0.2.2.2.2.1, .int .i64 y0_0.2.2.2.2.2.1.1, .int .i64 y0_0.2.2.2.2.2.1.2.1, .ro tVal y0_0.2.2.2.2.2.1.2.2.1, .ro tMake y0_0.2.2.2.2.2.1.2.2.2, .int .i64 y0_0.2.2.2.2.2.2.1, .int .i64 y0_0.2.2.2.2.2.2.2.1, .ro tVal y0_0.2.2.2.2.2.2.2.2.1, .ro tMake y0_0.2.2.2.2.2.2.2.2.2, .map 1], .map 164 tVal tVal (spanM y0_0 k x1 x2 (n1, y1)).2.1 (spanM y0_0 k x1 x2 (n1, y1)).2.2]
    | _, _, _, _ => none)
   | _ => none
  | 96, [.one (.c (.ptr b0 0 0 0)), a1] => match cellsAs 128 H[b0]? with
   | some [c0_0_0, c0_0_1, c0_0_2, c0_0_3, c0_0_4, c0_0_5, c0_0_6, c0_0_7, c0_0_8, c0_0_9, c0_0_10, c0_0_11, c0_0_12, .map b1] => (match dA tI a1, dCs tTrace [c0_0_0, c0_0_1, c0_0_2, c0_0_3, c0_0_4, c0_0_5, c0_0_6, c0_0_7, c0_0_8, c0_0_9, c0_0_10, c0_0_11, c0_0_12], mapAs 164 tVal tVal H[b1]? with
    | some x1, some y0_0, some (n1, y1) => hres [b0, b1] H (.c (.bool (intsF y0_0 x1))) [.cells 128 [.int .i64 y0_0.1, .int .i64 y0_0.2.1, .int .i64 y0_0.2.2.1, .ro tIns y0_0.2.2.2.1, .ro tExit y0_0.2.2.2.2.1, .int .i64 y0_0.2.2.2.2.2.1.1, .int .i64 y0_0.2.2.2.2.2.1.2.1, .ro tVal y0_0.2.2.2.2.2.1.2.2.1, .ro tMake y0_0.2.2.2.2.2.1.2.2.2, .int .i64 y0_0.2.2.2.2.2.2.1, .int .i64 y0_0.2.2.2.2.2.2.2.1, .ro tVal y0_0.2.2.2.2.2.2.2.2.1, .ro tMake y0_0.2.2.2.2.2.2.2.2.2, .map 1], .map 164 tVal tVal n1 y1]
    | _, _, _ => none)
   | _ => none
  | 101, [.one (.c (.ptr b0 0 0 0)), a1] => match cellsAs 128 H[b0]? with
   | some [c0_0_0, c0_0_1, c0_0_2, c0_0_3, c0_0_4, c0_0_5, c0_0_6, c0_0_7, c0_0_8, c0_0_9, c0_0_10, c0_0_11, c0_0_12, .map b1] => (match dA tI a1, dCs tTrace [c0_0_0, c0_0_1, c0_0_2, c0_0_3, c0_0_4, c0_0_5, c0_0_6, c0_0_7, c0_0_8, c0_0_9, c0_0_10, c0_0_11, c0_0_12], mapAs 164 tVal tVal H[b1]? with
    | some x1, some y0_0, some (n1, y1) => hres [b0, b1] H (.tup [.agg (Ty.enc tVal ((reckM (spanM y0_0 k) y0_0 x1 (n1, y1)).1.1)), .c (.bool ((reckM (spanM y0_0 k) y0_0 x1 (n1, y1)).1.2))]) [.cells 128 [.int .i64 y0_0.1, .int .i64 y0_0.2.1, .int .i64 y0_0.2.2.1, .ro tIns y0_0.2.2.2.1, .ro tExit y0_0.2.2.2.2.1, .int .i64 y0_0.2.2.2.2.2.1.1, .int .i64 y0_0.2.2.2.2.2.1.2.1, .ro tVal y0_0.2.2.2.2.2.1.2.2.1, .ro tMake y0_0.2.2.2.2.2.1.2.2.2, .int .i64 y0_0.2.2.2.2.2.2.1, .int .i64 y0_0.2.2.2.2.2.2.2.1, .ro tVal y0_0.2.2.2.2.2.2.2.2.1, .ro tMake y0_0.2.2.2.2.2.2.2.2.2, .map 1], .map 164 tVal tVal (reckM (spanM y0_0 k) y0_0 x1 (n1, y1)).2.1 (reckM (spanM y0_0 k) y0_0 x1 (n1, y1)).2.2]
    | _, _, _ => none)
   | _ => none
  | _, _ => none
def never_lv : LV := ⟨(true :: true :: F2 (false :: true :: F32 (F32 (F32 (F16 (F8 (F4 (F2 (false :: []))))))))), [7, 12, 17]⟩
noncomputable def never_T (t : ETrace) (n : Nat) (m : EVal → Option EVal) (i : Int) (k : Nat) : Tree :=
 .need ((0 : Int) ≤ i ∧ (i : Int) < (t.2.2.2.1.length : Int)) <|
 .need ((Int.toNat i) < t.2.2.2.1.length) <|
 .ite (decide ((xV t i).1 = 8))
 (.call 21 [.agg (Ty.enc tTrace t), .c (.int .i64 (xV t i).2.1), .c (.int .i64 i)] false (.c (.int .i64 (kindF t (xV t i).2.1 i))) <|
  .ite (decide ((xV t i).2.2.2.2.1 = 11))
  (.ret (.c (.lit true)) [.cells 128 (Ty.enc tTrace t ++ [.map 1]), .map 164 tVal tVal n m, .cells 46 (Ty.enc tIns (xV t i))])
  (.ite (decide (kindF t (xV t i).2.1 i = 3))
  (.ret (.c (.lit true)) [.cells 128 (Ty.enc tTrace t ++ [.map 1]), .map 164 tVal tVal n m, .cells 46 (Ty.enc tIns (xV t i))])
  (.ite (decide (kindF t (xV t i).2.1 i = 2))
   (.callH 62 [.c (.ptr 0 0 0 0), .c (.int .i64 (xV t i).2.1), .c (.int .i64 i)] [.cells 128 (Ty.enc tTrace t ++ [.map 1]), .map 164 tVal tVal n m, .cells 46 (Ty.enc tIns (xV t i))] (.agg [.int .i64 (spanM t k (xV t i).2.1 i (n, m)).1.1, .int .i64 (spanM t k (xV t i).2.1 i (n, m)).1.2]) [.cells 128 (Ty.enc tTrace t ++ [.map 1]), .map 164 tVal tVal (spanM t k (xV t i).2.1 i (n, m)).2.1 (spanM t k (xV t i).2.1 i (n, m)).2.2, .cells 46 (Ty.enc tIns (xV t i))] [0, 1] <|
   .ret (.c (.bool (decide (((-2147483648) : Int) < (spanM t k (xV t i).2.1 i (n, m)).1.1)))) [.cells 128 (Ty.enc tTrace t ++ [.map 1]), .map 164 tVal tVal (spanM t k (xV t i).2.1 i (n, m)).2.1 (spanM t k (xV t i).2.1 i (n, m)).2.2, .cells 46 (Ty.enc tIns (xV t i))])
   (.ret (.c (.lit false)) [.cells 128 (Ty.enc tTrace t ++ [.map 1]), .map 164 tVal tVal n m, .cells 46 (Ty.enc tIns (xV t i))]))))
 (.call 21 [.agg (Ty.enc tTrace t), .c (.int .i64 (xV t i).2.1), .c (.int .i64 i)] false (.c (.int .i64 (kindF t (xV t i).2.1 i))) <|
  .ite (decide (kindF t (xV t i).2.1 i = 3))
  (.call 21 [.agg (Ty.enc tTrace t), .c (.int .i64 (xV t i).2.2.1), .c (.int .i64 i)] false (.c (.int .i64 (kindF t (xV t i).2.2.1 i))) <|
  .ite (decide (kindF t (xV t i).2.2.1 i = 3))
  (.ret (.c (.bool (!(decide ((xV t i).2.2.2.2.1 = 7))))) [.cells 128 (Ty.enc tTrace t ++ [.map 1]), .map 164 tVal tVal n m, .cells 46 (Ty.enc tIns (xV t i))])
  (.stop (rg (bodyOf Tryd.f65) 7) (.c (.ptr 0 0 0 0) :: .c (.int .i64 i) :: J2 (.junk :: .c (.ptr 2 0 0 0) :: J32 (J32 (J32 (J16 (J8 (J4 (J2 (.junk :: []))))))))) [.cells 128 (Ty.enc tTrace t ++ [.map 1]), .map 164 tVal tVal n m, .cells 46 (Ty.enc tIns (xV t i))]))
  (.stop (rg (bodyOf Tryd.f65) 7) (.c (.ptr 0 0 0 0) :: .c (.int .i64 i) :: J2 (.junk :: .c (.ptr 2 0 0 0) :: J32 (J32 (J32 (J16 (J8 (J4 (J2 (.junk :: []))))))))) [.cells 128 (Ty.enc tTrace t ++ [.map 1]), .map 164 tVal tVal n m, .cells 46 (Ty.enc tIns (xV t i))]))
theorem never_T_ok (t : ETrace) (n : Nat) (m : EVal → Option EVal) (i : Int) (k : Nat) : aRun Tryd.prog (oc110 k) Tryd.f65 never_lv 3000 [.code (bodyOf Tryd.f65)] ([.c (.ptr 0 0 0 0), .c (.int .i64 i)] ++ List.replicate (Func.ntmps Tryd.f65 - 2) .junk) [.cells 128 (Ty.enc tTrace t ++ [.map 1]), .map 164 tVal tVal n m] = never_T t n m i k := by kernel_rfl
noncomputable def never_r7_R (t : ETrace) (n : Nat) (m : EVal → Option EVal) (i : Int) (k : Nat) : Tree :=
 .callH 96 [.c (.ptr 0 0 0 0), .c (.int .i64 i)] [.cells 128 (Ty.enc tTrace t ++ [.map 1]), .map 164 tVal tVal n m, .cells 46 (Ty.enc tIns (xV t i))] (.c (.bool (intsF t i))) [.cells 128 (Ty.enc tTrace t ++ [.map 1]), .map 164 tVal tVal n m, .cells 46 (Ty.enc tIns (xV t i))] [0, 1] <|
 .ite ((!(intsF t i)))
 (.ret (.c (.lit false)) [.cells 128 (Ty.enc tTrace t ++ [.map 1]), .map 164 tVal tVal n m, .cells 46 (Ty.enc tIns (xV t i))])
 (.ite (decide ((xV t i).2.2.2.2.1 = 6))
  (.ite (decide ((xV t i).2.2.2.2.1 = 6))
  (.stop (rg (bodyOf Tryd.f65) 12) (.c (.ptr 0 0 0 0) :: .c (.int .i64 i) :: J2 (.junk :: .c (.ptr 2 0 0 0) :: J32 (J32 (J32 (J16 (J8 (J4 (J2 (.junk :: []))))))))) [.cells 128 (Ty.enc tTrace t ++ [.map 1]), .map 164 tVal tVal n m, .cells 46 (Ty.enc tIns (xV t i))])
  (.ite (decide ((xV t i).2.2.2.2.1 = 3))
   (.ite (decide ((xV t i).2.2.2.2.1 = 3))
   (.stop (rg (bodyOf Tryd.f65) 17) (.c (.ptr 0 0 0 0) :: .c (.int .i64 i) :: J2 (.junk :: .c (.ptr 2 0 0 0) :: J32 (J32 (J32 (J16 (J8 (J4 (J2 (.junk :: []))))))))) [.cells 128 (Ty.enc tTrace t ++ [.map 1]), .map 164 tVal tVal n m, .cells 46 (Ty.enc tIns (xV t i))])
   (.ret (.c (.lit true)) [.cells 128 (Ty.enc tTrace t ++ [.map 1]), .map 164 tVal tVal n m, .cells 46 (Ty.enc tIns (xV t i))]))
   (.ite (decide ((xV t i).2.2.2.2.1 = 4))
   (.ite (decide ((xV t i).2.2.2.2.1 = 4))
    (.stop (rg (bodyOf Tryd.f65) 17) (.c (.ptr 0 0 0 0) :: .c (.int .i64 i) :: J2 (.junk :: .c (.ptr 2 0 0 0) :: J32 (J32 (J32 (J16 (J8 (J4 (J2 (.junk :: []))))))))) [.cells 128 (Ty.enc tTrace t ++ [.map 1]), .map 164 tVal tVal n m, .cells 46 (Ty.enc tIns (xV t i))])
    (.ret (.c (.lit true)) [.cells 128 (Ty.enc tTrace t ++ [.map 1]), .map 164 tVal tVal n m, .cells 46 (Ty.enc tIns (xV t i))]))
   (.ite (decide ((xV t i).2.2.2.2.1 = 5))
    (.stop (rg (bodyOf Tryd.f65) 17) (.c (.ptr 0 0 0 0) :: .c (.int .i64 i) :: J2 (.junk :: .c (.ptr 2 0 0 0) :: J32 (J32 (J32 (J16 (J8 (J4 (J2 (.junk :: []))))))))) [.cells 128 (Ty.enc tTrace t ++ [.map 1]), .map 164 tVal tVal n m, .cells 46 (Ty.enc tIns (xV t i))])
    (.ret (.c (.lit true)) [.cells 128 (Ty.enc tTrace t ++ [.map 1]), .map 164 tVal tVal n m, .cells 46 (Ty.enc tIns (xV t i))])))))
  (.ite (decide ((xV t i).2.2.2.2.1 = 7))
  (.stop (rg (bodyOf Tryd.f65) 12) (.c (.ptr 0 0 0 0) :: .c (.int .i64 i) :: J2 (.junk :: .c (.ptr 2 0 0 0) :: J32 (J32 (J32 (J16 (J8 (J4 (J2 (.junk :: []))))))))) [.cells 128 (Ty.enc tTrace t ++ [.map 1]), .map 164 tVal tVal n m, .cells 46 (Ty.enc tIns (xV t i))])
  (.ite (decide ((xV t i).2.2.2.2.1 = 3))
   (.ite (decide ((xV t i).2.2.2.2.1 = 3))
   (.stop (rg (bodyOf Tryd.f65) 17) (.c (.ptr 0 0 0 0) :: .c (.int .i64 i) :: J2 (.junk :: .c (.ptr 2 0 0 0) :: J32 (J32 (J32 (J16 (J8 (J4 (J2 (.junk :: []))))))))) [.cells 128 (Ty.enc tTrace t ++ [.map 1]), .map 164 tVal tVal n m, .cells 46 (Ty.enc tIns (xV t i))])
   (.ret (.c (.lit true)) [.cells 128 (Ty.enc tTrace t ++ [.map 1]), .map 164 tVal tVal n m, .cells 46 (Ty.enc tIns (xV t i))]))
   (.ite (decide ((xV t i).2.2.2.2.1 = 4))
   (.ite (decide ((xV t i).2.2.2.2.1 = 4))
    (.stop (rg (bodyOf Tryd.f65) 17) (.c (.ptr 0 0 0 0) :: .c (.int .i64 i) :: J2 (.junk :: .c (.ptr 2 0 0 0) :: J32 (J32 (J32 (J16 (J8 (J4 (J2 (.junk :: []))))))))) [.cells 128 (Ty.enc tTrace t ++ [.map 1]), .map 164 tVal tVal n m, .cells 46 (Ty.enc tIns (xV t i))])
    (.ret (.c (.lit true)) [.cells 128 (Ty.enc tTrace t ++ [.map 1]), .map 164 tVal tVal n m, .cells 46 (Ty.enc tIns (xV t i))]))
   (.ite (decide ((xV t i).2.2.2.2.1 = 5))
    (.stop (rg (bodyOf Tryd.f65) 17) (.c (.ptr 0 0 0 0) :: .c (.int .i64 i) :: J2 (.junk :: .c (.ptr 2 0 0 0) :: J32 (J32 (J32 (J16 (J8 (J4 (J2 (.junk :: []))))))))) [.cells 128 (Ty.enc tTrace t ++ [.map 1]), .map 164 tVal tVal n m, .cells 46 (Ty.enc tIns (xV t i))])
    (.ret (.c (.lit true)) [.cells 128 (Ty.enc tTrace t ++ [.map 1]), .map 164 tVal tVal n m, .cells 46 (Ty.enc tIns (xV t i))]))))))
theorem never_r7_R_ok (t : ETrace) (n : Nat) (m : EVal → Option EVal) (i : Int) (k : Nat) : aRound Tryd.prog (oc110 k) Tryd.f65 never_lv 3000 (rg (bodyOf Tryd.f65) 7) (.c (.ptr 0 0 0 0) :: .c (.int .i64 i) :: J2 (.junk :: .c (.ptr 2 0 0 0) :: J32 (J32 (J32 (J16 (J8 (J4 (J2 (.junk :: []))))))))) [.cells 128 (Ty.enc tTrace t ++ [.map 1]), .map 164 tVal tVal n m, .cells 46 (Ty.enc tIns (xV t i))] = never_r7_R t n m i k := by kernel_rfl
noncomputable def never_r12_R (t : ETrace) (n : Nat) (m : EVal → Option EVal) (i : Int) (k : Nat) : Tree :=
 .callH 62 [.c (.ptr 0 0 0 0), .c (.int .i64 (xV t i).2.1), .c (.int .i64 i)] [.cells 128 (Ty.enc tTrace t ++ [.map 1]), .map 164 tVal tVal n m, .cells 46 (Ty.enc tIns (xV t i))] (.agg [.int .i64 (spanM t k (xV t i).2.1 i (n, m)).1.1, .int .i64 (spanM t k (xV t i).2.1 i (n, m)).1.2]) [.cells 128 (Ty.enc tTrace t ++ [.map 1]), .map 164 tVal tVal (spanM t k (xV t i).2.1 i (n, m)).2.1 (spanM t k (xV t i).2.1 i (n, m)).2.2, .cells 46 (Ty.enc tIns (xV t i))] [0, 1] <|
 .callH 62 [.c (.ptr 0 0 0 0), .c (.int .i64 (xV t i).2.2.1), .c (.int .i64 i)] [.cells 128 (Ty.enc tTrace t ++ [.map 1]), .map 164 tVal tVal (spanM t k (xV t i).2.1 i (n, m)).2.1 (spanM t k (xV t i).2.1 i (n, m)).2.2, .cells 46 (Ty.enc tIns (xV t i))] (.agg [.int .i64 (spanM t k (xV t i).2.2.1 i (spanM t k (xV t i).2.1 i (n, m)).2).1.1, .int .i64 (spanM t k (xV t i).2.2.1 i (spanM t k (xV t i).2.1 i (n, m)).2).1.2]) [.cells 128 (Ty.enc tTrace t ++ [.map 1]), .map 164 tVal tVal (spanM t k (xV t i).2.2.1 i (spanM t k (xV t i).2.1 i (n, m)).2).2.1 (spanM t k (xV t i).2.2.1 i (spanM t k (xV t i).2.1 i (n, m)).2).2.2, .cells 46 (Ty.enc tIns (xV t i))] [0, 1] <|
 .ite (decide ((0 : Int) < (spanM t k (xV t i).2.2.1 i (spanM t k (xV t i).2.1 i (n, m)).2).1.1))
 (.ite (decide (((-1) : Int) < (spanM t k (xV t i).2.2.1 i (spanM t k (xV t i).2.1 i (n, m)).2).1.1))
  (.ret (.c (.lit true)) [.cells 128 (Ty.enc tTrace t ++ [.map 1]), .map 164 tVal tVal (spanM t k (xV t i).2.2.1 i (spanM t k (xV t i).2.1 i (n, m)).2).2.1 (spanM t k (xV t i).2.2.1 i (spanM t k (xV t i).2.1 i (n, m)).2).2.2, .cells 46 (Ty.enc tIns (xV t i)), .cells 130 [.int .i64 (spanM t k (xV t i).2.1 i (n, m)).1.1, .int .i64 (spanM t k (xV t i).2.1 i (n, m)).1.2], .cells 130 [.int .i64 (spanM t k (xV t i).2.2.1 i (spanM t k (xV t i).2.1 i (n, m)).2).1.1, .int .i64 (spanM t k (xV t i).2.2.1 i (spanM t k (xV t i).2.1 i (n, m)).2).1.2]])
  (.ite (decide ((spanM t k (xV t i).2.2.1 i (spanM t k (xV t i).2.1 i (n, m)).2).1.2 < (-1)))
  (.ret (.c (.lit true)) [.cells 128 (Ty.enc tTrace t ++ [.map 1]), .map 164 tVal tVal (spanM t k (xV t i).2.2.1 i (spanM t k (xV t i).2.1 i (n, m)).2).2.1 (spanM t k (xV t i).2.2.1 i (spanM t k (xV t i).2.1 i (n, m)).2).2.2, .cells 46 (Ty.enc tIns (xV t i)), .cells 130 [.int .i64 (spanM t k (xV t i).2.1 i (n, m)).1.1, .int .i64 (spanM t k (xV t i).2.1 i (n, m)).1.2], .cells 130 [.int .i64 (spanM t k (xV t i).2.2.1 i (spanM t k (xV t i).2.1 i (n, m)).2).1.1, .int .i64 (spanM t k (xV t i).2.2.1 i (spanM t k (xV t i).2.1 i (n, m)).2).1.2]])
  (.ret (.c (.bool (decide (((-2147483648) : Int) < (spanM t k (xV t i).2.1 i (n, m)).1.1)))) [.cells 128 (Ty.enc tTrace t ++ [.map 1]), .map 164 tVal tVal (spanM t k (xV t i).2.2.1 i (spanM t k (xV t i).2.1 i (n, m)).2).2.1 (spanM t k (xV t i).2.2.1 i (spanM t k (xV t i).2.1 i (n, m)).2).2.2, .cells 46 (Ty.enc tIns (xV t i)), .cells 130 [.int .i64 (spanM t k (xV t i).2.1 i (n, m)).1.1, .int .i64 (spanM t k (xV t i).2.1 i (n, m)).1.2], .cells 130 [.int .i64 (spanM t k (xV t i).2.2.1 i (spanM t k (xV t i).2.1 i (n, m)).2).1.1, .int .i64 (spanM t k (xV t i).2.2.1 i (spanM t k (xV t i).2.1 i (n, m)).2).1.2]])))
 (.ite (decide ((spanM t k (xV t i).2.2.1 i (spanM t k (xV t i).2.1 i (n, m)).2).1.2 < 0))
  (.ite (decide (((-1) : Int) < (spanM t k (xV t i).2.2.1 i (spanM t k (xV t i).2.1 i (n, m)).2).1.1))
  (.ret (.c (.lit true)) [.cells 128 (Ty.enc tTrace t ++ [.map 1]), .map 164 tVal tVal (spanM t k (xV t i).2.2.1 i (spanM t k (xV t i).2.1 i (n, m)).2).2.1 (spanM t k (xV t i).2.2.1 i (spanM t k (xV t i).2.1 i (n, m)).2).2.2, .cells 46 (Ty.enc tIns (xV t i)), .cells 130 [.int .i64 (spanM t k (xV t i).2.1 i (n, m)).1.1, .int .i64 (spanM t k (xV t i).2.1 i (n, m)).1.2], .cells 130 [.int .i64 (spanM t k (xV t i).2.2.1 i (spanM t k (xV t i).2.1 i (n, m)).2).1.1, .int .i64 (spanM t k (xV t i).2.2.1 i (spanM t k (xV t i).2.1 i (n, m)).2).1.2]])
  (.ite (decide ((spanM t k (xV t i).2.2.1 i (spanM t k (xV t i).2.1 i (n, m)).2).1.2 < (-1)))
   (.ret (.c (.lit true)) [.cells 128 (Ty.enc tTrace t ++ [.map 1]), .map 164 tVal tVal (spanM t k (xV t i).2.2.1 i (spanM t k (xV t i).2.1 i (n, m)).2).2.1 (spanM t k (xV t i).2.2.1 i (spanM t k (xV t i).2.1 i (n, m)).2).2.2, .cells 46 (Ty.enc tIns (xV t i)), .cells 130 [.int .i64 (spanM t k (xV t i).2.1 i (n, m)).1.1, .int .i64 (spanM t k (xV t i).2.1 i (n, m)).1.2], .cells 130 [.int .i64 (spanM t k (xV t i).2.2.1 i (spanM t k (xV t i).2.1 i (n, m)).2).1.1, .int .i64 (spanM t k (xV t i).2.2.1 i (spanM t k (xV t i).2.1 i (n, m)).2).1.2]])
   (.ret (.c (.bool (decide (((-2147483648) : Int) < (spanM t k (xV t i).2.1 i (n, m)).1.1)))) [.cells 128 (Ty.enc tTrace t ++ [.map 1]), .map 164 tVal tVal (spanM t k (xV t i).2.2.1 i (spanM t k (xV t i).2.1 i (n, m)).2).2.1 (spanM t k (xV t i).2.2.1 i (spanM t k (xV t i).2.1 i (n, m)).2).2.2, .cells 46 (Ty.enc tIns (xV t i)), .cells 130 [.int .i64 (spanM t k (xV t i).2.1 i (n, m)).1.1, .int .i64 (spanM t k (xV t i).2.1 i (n, m)).1.2], .cells 130 [.int .i64 (spanM t k (xV t i).2.2.1 i (spanM t k (xV t i).2.1 i (n, m)).2).1.1, .int .i64 (spanM t k (xV t i).2.2.1 i (spanM t k (xV t i).2.1 i (n, m)).2).1.2]])))
  (.ret (.c (.lit false)) [.cells 128 (Ty.enc tTrace t ++ [.map 1]), .map 164 tVal tVal (spanM t k (xV t i).2.2.1 i (spanM t k (xV t i).2.1 i (n, m)).2).2.1 (spanM t k (xV t i).2.2.1 i (spanM t k (xV t i).2.1 i (n, m)).2).2.2, .cells 46 (Ty.enc tIns (xV t i)), .cells 130 [.int .i64 (spanM t k (xV t i).2.1 i (n, m)).1.1, .int .i64 (spanM t k (xV t i).2.1 i (n, m)).1.2], .cells 130 [.int .i64 (spanM t k (xV t i).2.2.1 i (spanM t k (xV t i).2.1 i (n, m)).2).1.1, .int .i64 (spanM t k (xV t i).2.2.1 i (spanM t k (xV t i).2.1 i (n, m)).2).1.2]]))
theorem never_r12_R_ok (t : ETrace) (n : Nat) (m : EVal → Option EVal) (i : Int) (k : Nat) : aRound Tryd.prog (oc110 k) Tryd.f65 never_lv 3000 (rg (bodyOf Tryd.f65) 12) (.c (.ptr 0 0 0 0) :: .c (.int .i64 i) :: J2 (.junk :: .c (.ptr 2 0 0 0) :: J32 (J32 (J32 (J16 (J8 (J4 (J2 (.junk :: []))))))))) [.cells 128 (Ty.enc tTrace t ++ [.map 1]), .map 164 tVal tVal n m, .cells 46 (Ty.enc tIns (xV t i))] = never_r12_R t n m i k := by kernel_rfl
noncomputable def never_r17_R (t : ETrace) (n : Nat) (m : EVal → Option EVal) (i : Int) (k : Nat) : Tree :=
 .callH 101 [.c (.ptr 0 0 0 0), .c (.int .i64 i)] [.cells 128 (Ty.enc tTrace t ++ [.map 1]), .map 164 tVal tVal n m] (.tup [.agg [.int .i64 (reckM (spanM t k) t i (n, m)).1.1.1, .int .i64 (reckM (spanM t k) t i (n, m)).1.1.2], .c (.bool (reckM (spanM t k) t i (n, m)).1.2)]) [.cells 128 (Ty.enc tTrace t ++ [.map 1]), .map 164 tVal tVal (reckM (spanM t k) t i (n, m)).2.1 (reckM (spanM t k) t i (n, m)).2.2] [0, 1] <|
 .ite (decide (((-2147483648) : Int) ≤ (reckM (spanM t k) t i (n, m)).1.1.1))
 (.ret (.c (.bool (decide ((reckM (spanM t k) t i (n, m)).1.1.2 ≤ 2147483647)))) [.cells 128 (Ty.enc tTrace t ++ [.map 1]), .map 164 tVal tVal (reckM (spanM t k) t i (n, m)).2.1 (reckM (spanM t k) t i (n, m)).2.2, .cells 130 [.int .i64 (reckM (spanM t k) t i (n, m)).1.1.1, .int .i64 (reckM (spanM t k) t i (n, m)).1.1.2]])
 (.ret (.c (.lit false)) [.cells 128 (Ty.enc tTrace t ++ [.map 1]), .map 164 tVal tVal (reckM (spanM t k) t i (n, m)).2.1 (reckM (spanM t k) t i (n, m)).2.2, .cells 130 [.int .i64 (reckM (spanM t k) t i (n, m)).1.1.1, .int .i64 (reckM (spanM t k) t i (n, m)).1.1.2]])
theorem never_r17_R_ok (t : ETrace) (n : Nat) (m : EVal → Option EVal) (i : Int) (k : Nat) : aRound Tryd.prog (oc110 k) Tryd.f65 never_lv 3000 (rg (bodyOf Tryd.f65) 17) (.c (.ptr 0 0 0 0) :: .c (.int .i64 i) :: J32 (J32 (J32 (J32 (J2 (.junk :: [])))))) [.cells 128 (Ty.enc tTrace t ++ [.map 1]), .map 164 tVal tVal n m] = never_r17_R t n m i k := by kernel_rfl
theorem never_r12 (t : ETrace) (n : Nat) (m : EVal → Option EVal) (i : Int) (k : Nat) (bd : Int) (hd : DomC t) (hr : SpanC t k bd) (hk : bd.toNat ≤ k) (hbl : bd ≤ (t.2.2.2.1.length : Int)) (hm : KeptOk t (n, m)) (hi : 0 ≤ i ∧ i < bd) (ho : (xV t i).1 = 7) : RunN 2 Tryd.prog 65 (finQ Tryd.prog 2 (.c (.bool ((divM (spanM t k) t i (n, m)).1))) [.cells 128 (Ty.enc tTrace t ++ [.map 1]), .map 164 tVal tVal (divM (spanM t k) t i (n, m)).2.1 (divM (spanM t k) t i (n, m)).2.2]) (rg (bodyOf Tryd.f65) 12) (.c (.ptr 0 0 0 0) :: .c (.int .i64 i) :: J2 (.junk :: .c (.ptr 2 0 0 0) :: J32 (J32 (J32 (J16 (J8 (J4 (J2 (.junk :: []))))))))) [.cells 128 (Ty.enc tTrace t ++ [.map 1]), .map 164 tVal tVal n m, .cells 46 (Ty.enc tIns (xV t i))] :=
 Run.roundA (oc110 k) never_lv 3000 Tryd.func65 mixed (never_r12_R t n m i k) (never_r12_R_ok t n m i k) (by
  unfold never_r12_R
  obtain ⟨a0, a1, b0, b1⟩ : 0 ≤ (xV t i).2.1 ∧ (xV t i).2.1 < i ∧ 0 ≤ (xV t i).2.2.1 ∧ (xV t i).2.2.1 < i := hd.bin i (by omega) (by omega) ho
  obtain ⟨eA, kA, _⟩ := spanM_ok hd.toDomT k (xV t i).2.1 i (n, m) (by omega) a0 a1 (by omega) hm
  have iA : InB (spanM t k (xV t i).2.1 i (n, m)).1 := by rw [eA]; exact spanF_in hd a0 a1 (by omega)
  obtain ⟨eB, kB, _⟩ := spanM_ok hd.toDomT k (xV t i).2.2.1 i (spanM t k (xV t i).2.1 i (n, m)).2 (by omega) b0 b1 (by omega) kA
  have iB : InB (spanM t k (xV t i).2.2.1 i (spanM t k (xV t i).2.1 i (n, m)).2).1 := by rw [eB]; exact spanF_in hd b0 b1 (by omega)
  unfold InB at iA iB
  refine g_callH (AFunH.frameB [0, 1] (hr (xV t i).2.1 i n m (by omega) (by omega) (by omega) (by first | exact hm | exact kA | exact kB | exact kC | exact kD)) rfl rfl rfl rfl rfl rfl rfl) ?_
  refine g_callH (AFunH.frameB [0, 1] (hr (xV t i).2.2.1 i (spanM t k (xV t i).2.1 i (n, m)).2.1 (spanM t k (xV t i).2.1 i (n, m)).2.2 (by omega) (by omega) (by omega) (by first | exact hm | exact kA | exact kB | exact kC | exact kD)) rfl rfl rfl rfl rfl rfl rfl) ?_
  refine g_iteD (fun h0 => ?_) (fun h0 => ?_)
  ·refine g_iteD (fun h1 => ?_) (fun h1 => ?_)
   ·rw [divM, if_pos h0, if_pos h1]
    refine g_fin ?_
    exact g_end [0, 1] (show ∀ k, k < 2 → ([0, 1] : List Nat)[k]? = some k by decide) (by decide) (rfl) ⟨leB.refl _, rfl, trivial⟩
   ·refine g_iteD (fun h2 => ?_) (fun h2 => ?_)
    ·rw [divM, if_pos h0, if_neg h1, if_pos h2]
     refine g_fin ?_
     exact g_end [0, 1] (show ∀ k, k < 2 → ([0, 1] : List Nat)[k]? = some k by decide) (by decide) (rfl) ⟨leB.refl _, rfl, trivial⟩
    ·rw [divM, if_pos h0, if_neg h1, if_neg h2]
     refine g_fin ?_
     exact g_end [0, 1] (show ∀ k, k < 2 → ([0, 1] : List Nat)[k]? = some k by decide) (by decide) (rfl) ⟨leB.refl _, rfl, trivial⟩
  ·refine g_iteD (fun h1 => ?_) (fun h1 => ?_)
   ·refine g_iteD (fun h2 => ?_) (fun h2 => ?_)
    ·rw [divM, if_neg h0, if_pos h1, if_pos h2]
     refine g_fin ?_
     exact g_end [0, 1] (show ∀ k, k < 2 → ([0, 1] : List Nat)[k]? = some k by decide) (by decide) (rfl) ⟨leB.refl _, rfl, trivial⟩
    ·refine g_iteD (fun h3 => ?_) (fun h3 => ?_)
     ·rw [divM, if_neg h0, if_pos h1, if_neg h2, if_pos h3]
      refine g_fin ?_
      exact g_end [0, 1] (show ∀ k, k < 2 → ([0, 1] : List Nat)[k]? = some k by decide) (by decide) (rfl) ⟨leB.refl _, rfl, trivial⟩
     ·rw [divM, if_neg h0, if_pos h1, if_neg h2, if_neg h3]
      refine g_fin ?_
      exact g_end [0, 1] (show ∀ k, k < 2 → ([0, 1] : List Nat)[k]? = some k by decide) (by decide) (rfl) ⟨leB.refl _, rfl, trivial⟩
   ·rw [divM, if_neg h0, if_neg h1]
    refine g_fin ?_
    exact g_end [0, 1] (show ∀ k, k < 2 → ([0, 1] : List Nat)[k]? = some k by decide) (by decide) (rfl) ⟨leB.refl _, rfl, trivial⟩
  )
theorem never_r17 (t : ETrace) (n : Nat) (m : EVal → Option EVal) (i : Int) (k : Nat) (bd : Int) (hd : DomC t) (hr : SpanC t k bd) (hk : bd.toNat ≤ k) (hbl : bd ≤ (t.2.2.2.1.length : Int)) (hm : KeptOk t (n, m)) (hi : 0 ≤ i ∧ i < bd) (ho : (xV t i).1 = 7) : RunN 2 Tryd.prog 65 (finQ Tryd.prog 2 (.c (.bool ((sumM (spanM t k) t i (n, m)).1))) [.cells 128 (Ty.enc tTrace t ++ [.map 1]), .map 164 tVal tVal (sumM (spanM t k) t i (n, m)).2.1 (sumM (spanM t k) t i (n, m)).2.2]) (rg (bodyOf Tryd.f65) 17) (.c (.ptr 0 0 0 0) :: .c (.int .i64 i) :: J32 (J32 (J32 (J32 (J2 (.junk :: [])))))) [.cells 128 (Ty.enc tTrace t ++ [.map 1]), .map 164 tVal tVal n m] :=
 Run.roundA (oc110 k) never_lv 3000 Tryd.func65 mixed (never_r17_R t n m i k) (never_r17_R_ok t n m i k) (by
  unfold never_r17_R
  refine g_callH (AFunH.frameB [0, 1] (reck_fun t n m i k bd hd hr hk hbl (by first | exact hm | exact kA | exact kB | exact kC | exact kD) ⟨by omega, by omega⟩ (by assumption)) rfl rfl rfl rfl rfl rfl rfl) ?_
  refine g_iteD (fun h0 => ?_) (fun h0 => ?_)
  ·rw [sumM, if_pos h0]
   refine g_fin ?_
   exact g_end [0, 1] (show ∀ k, k < 2 → ([0, 1] : List Nat)[k]? = some k by decide) (by decide) (rfl) ⟨leB.refl _, rfl, trivial⟩
  ·rw [sumM, if_neg h0]
   refine g_fin ?_
   exact g_end [0, 1] (show ∀ k, k < 2 → ([0, 1] : List Nat)[k]? = some k by decide) (by decide) (rfl) ⟨leB.refl _, rfl, trivial⟩
  )
theorem never_r7 (t : ETrace) (n : Nat) (m : EVal → Option EVal) (i : Int) (k : Nat) (bd : Int) (hd : DomC t) (hr : SpanC t k bd) (hk : bd.toNat ≤ k) (hbl : bd ≤ (t.2.2.2.1.length : Int)) (hm : KeptOk t (n, m)) (hi : 0 ≤ i ∧ i < bd) (ho : (xV t i).1 = 7) : RunN 2 Tryd.prog 65 (finQ Tryd.prog 2 (.c (.bool ((nev7 (spanM t k) t i (n, m)).1))) [.cells 128 (Ty.enc tTrace t ++ [.map 1]), .map 164 tVal tVal (nev7 (spanM t k) t i (n, m)).2.1 (nev7 (spanM t k) t i (n, m)).2.2]) (rg (bodyOf Tryd.f65) 7) (.c (.ptr 0 0 0 0) :: .c (.int .i64 i) :: J2 (.junk :: .c (.ptr 2 0 0 0) :: J32 (J32 (J32 (J16 (J8 (J4 (J2 (.junk :: []))))))))) [.cells 128 (Ty.enc tTrace t ++ [.map 1]), .map 164 tVal tVal n m, .cells 46 (Ty.enc tIns (xV t i))] :=
 Run.roundA (oc110 k) never_lv 3000 Tryd.func65 mixed (never_r7_R t n m i k) (never_r7_R_ok t n m i k) (by
  unfold never_r7_R
  refine g_callH (AFunH.frameB [0, 1] (ints_fun t n m i ⟨by omega, by omega⟩) rfl rfl rfl rfl rfl rfl rfl) ?_
  refine g_iteN (fun h0 => ?_) (fun h0 => ?_)
  ·rw [nev7, if_neg (by rw [h0]; decide)]
   refine g_fin ?_
   exact g_end [0, 1] (show ∀ k, k < 2 → ([0, 1] : List Nat)[k]? = some k by decide) (by decide) (rfl) ⟨leB.refl _, rfl, trivial⟩
  ·refine g_iteD (fun h1 => ?_) (fun h1 => ?_)
   ·refine g_iteD (fun h2 => ?_) (fun h2 => ?_)
    ·refine g_stop (RunN.keep [0, 1, 2] (true :: true :: F2 (false :: true :: F32 (F32 (F32 (F16 (F8 (F4 (F2 (false :: []))))))))) (show ∀ k, k < 2 → ([0, 1, 2] : List Nat)[k]? = some k by decide) (by decide) rfl rfl ?_)
     rw [nev7, if_pos h0, if_pos h1, if_pos h2]; exact never_r12 t n m i k bd hd hr hk hbl hm hi ho
    ·refine g_iteD (fun h3 => ?_) (fun h3 => ?_)
     ·refine g_iteD (fun h4 => ?_) (fun h4 => ?_)
      ·refine g_stop (RunN.keep [0, 1] (true :: true :: F32 (F32 (F32 (F32 (F2 (false :: [])))))) (show ∀ k, k < 2 → ([0, 1] : List Nat)[k]? = some k by decide) (by decide) rfl rfl ?_)
       rw [nev7, if_pos h0, if_pos h1, if_neg h2, if_pos h3, if_pos h4]; exact never_r17 t n m i k bd hd hr hk hbl hm hi ho
      ·rw [nev7, if_pos h0, if_pos h1, if_neg h2, if_pos h3, if_neg h4]
       refine g_fin ?_
       exact g_end [0, 1] (show ∀ k, k < 2 → ([0, 1] : List Nat)[k]? = some k by decide) (by decide) (rfl) ⟨leB.refl _, rfl, trivial⟩
     ·refine g_iteD (fun h4 => ?_) (fun h4 => ?_)
      ·refine g_iteD (fun h5 => ?_) (fun h5 => ?_)
       ·refine g_stop (RunN.keep [0, 1] (true :: true :: F32 (F32 (F32 (F32 (F2 (false :: [])))))) (show ∀ k, k < 2 → ([0, 1] : List Nat)[k]? = some k by decide) (by decide) rfl rfl ?_)
        rw [nev7, if_pos h0, if_pos h1, if_neg h2, if_neg h3, if_pos h4, if_pos h5]; exact never_r17 t n m i k bd hd hr hk hbl hm hi ho
       ·rw [nev7, if_pos h0, if_pos h1, if_neg h2, if_neg h3, if_pos h4, if_neg h5]
        refine g_fin ?_
        exact g_end [0, 1] (show ∀ k, k < 2 → ([0, 1] : List Nat)[k]? = some k by decide) (by decide) (rfl) ⟨leB.refl _, rfl, trivial⟩
      ·refine g_iteD (fun h5 => ?_) (fun h5 => ?_)
       ·refine g_stop (RunN.keep [0, 1] (true :: true :: F32 (F32 (F32 (F32 (F2 (false :: [])))))) (show ∀ k, k < 2 → ([0, 1] : List Nat)[k]? = some k by decide) (by decide) rfl rfl ?_)
        rw [nev7, if_pos h0, if_pos h1, if_neg h2, if_neg h3, if_neg h4, if_pos h5]; exact never_r17 t n m i k bd hd hr hk hbl hm hi ho
       ·rw [nev7, if_pos h0, if_pos h1, if_neg h2, if_neg h3, if_neg h4, if_neg h5]
        refine g_fin ?_
        exact g_end [0, 1] (show ∀ k, k < 2 → ([0, 1] : List Nat)[k]? = some k by decide) (by decide) (rfl) ⟨leB.refl _, rfl, trivial⟩
   ·refine g_iteD (fun h2 => ?_) (fun h2 => ?_)
    ·refine g_stop (RunN.keep [0, 1, 2] (true :: true :: F2 (false :: true :: F32 (F32 (F32 (F16 (F8 (F4 (F2 (false :: []))))))))) (show ∀ k, k < 2 → ([0, 1, 2] : List Nat)[k]? = some k by decide) (by decide) rfl rfl ?_)
     rw [nev7, if_pos h0, if_neg h1, if_pos h2]; exact never_r12 t n m i k bd hd hr hk hbl hm hi ho
    ·refine g_iteD (fun h3 => ?_) (fun h3 => ?_)
     ·refine g_iteD (fun h4 => ?_) (fun h4 => ?_)
      ·refine g_stop (RunN.keep [0, 1] (true :: true :: F32 (F32 (F32 (F32 (F2 (false :: [])))))) (show ∀ k, k < 2 → ([0, 1] : List Nat)[k]? = some k by decide) (by decide) rfl rfl ?_)
       rw [nev7, if_pos h0, if_neg h1, if_neg h2, if_pos h3, if_pos h4]; exact never_r17 t n m i k bd hd hr hk hbl hm hi ho
      ·rw [nev7, if_pos h0, if_neg h1, if_neg h2, if_pos h3, if_neg h4]
       refine g_fin ?_
       exact g_end [0, 1] (show ∀ k, k < 2 → ([0, 1] : List Nat)[k]? = some k by decide) (by decide) (rfl) ⟨leB.refl _, rfl, trivial⟩
     ·refine g_iteD (fun h4 => ?_) (fun h4 => ?_)
      ·refine g_iteD (fun h5 => ?_) (fun h5 => ?_)
       ·refine g_stop (RunN.keep [0, 1] (true :: true :: F32 (F32 (F32 (F32 (F2 (false :: [])))))) (show ∀ k, k < 2 → ([0, 1] : List Nat)[k]? = some k by decide) (by decide) rfl rfl ?_)
        rw [nev7, if_pos h0, if_neg h1, if_neg h2, if_neg h3, if_pos h4, if_pos h5]; exact never_r17 t n m i k bd hd hr hk hbl hm hi ho
       ·rw [nev7, if_pos h0, if_neg h1, if_neg h2, if_neg h3, if_pos h4, if_neg h5]
        refine g_fin ?_
        exact g_end [0, 1] (show ∀ k, k < 2 → ([0, 1] : List Nat)[k]? = some k by decide) (by decide) (rfl) ⟨leB.refl _, rfl, trivial⟩
      ·refine g_iteD (fun h5 => ?_) (fun h5 => ?_)
       ·refine g_stop (RunN.keep [0, 1] (true :: true :: F32 (F32 (F32 (F32 (F2 (false :: [])))))) (show ∀ k, k < 2 → ([0, 1] : List Nat)[k]? = some k by decide) (by decide) rfl rfl ?_)
        rw [nev7, if_pos h0, if_neg h1, if_neg h2, if_neg h3, if_neg h4, if_pos h5]; exact never_r17 t n m i k bd hd hr hk hbl hm hi ho
       ·rw [nev7, if_pos h0, if_neg h1, if_neg h2, if_neg h3, if_neg h4, if_neg h5]
        refine g_fin ?_
        exact g_end [0, 1] (show ∀ k, k < 2 → ([0, 1] : List Nat)[k]? = some k by decide) (by decide) (rfl) ⟨leB.refl _, rfl, trivial⟩
  )
theorem never_fun (t : ETrace) (n : Nat) (m : EVal → Option EVal) (i : Int) (k : Nat) (bd : Int) (hd : DomC t) (hr : SpanC t k bd) (hk : bd.toNat ≤ k) (hbl : bd ≤ (t.2.2.2.1.length : Int)) (hm : KeptOk t (n, m)) (hi : 0 ≤ i ∧ i < bd) (ho : (xV t i).1 = 7 ∨ (xV t i).1 = 8) : AFunH Tryd.prog 65 [.c (.ptr 0 0 0 0), .c (.int .i64 i)] [.cells 128 (Ty.enc tTrace t ++ [.map 1]), .map 164 tVal tVal n m] (.c (.bool ((neverM (spanM t k) t i (n, m)).1))) [.cells 128 (Ty.enc tTrace t ++ [.map 1]), .map 164 tVal tVal (neverM (spanM t k) t i (n, m)).2.1 (neverM (spanM t k) t i (n, m)).2.2] (List.range 2) :=
 AFunH.ofL (oc110 k) never_lv 3000 Tryd.func65 mixed rfl (by decide) (Nat.le_of_ble_eq_true rfl) rfl rfl (Nat.le_of_ble_eq_true rfl) _ (never_T_ok t n m i k) fun hF => by
  have hU : (xV t i).1 = 8 → 0 ≤ (xV t i).2.1 ∧ (xV t i).2.1 < i := fun h => hd.un i (by omega) (by omega) h
  unfold never_T
  refine g_need (by omega) ?_
  refine g_need (by omega) ?_
  refine g_iteD (fun h0 => ?_) (fun h0 => ?_)
  ·refine g_call (kind_fun t (xV t i).2.1 i) (fun h => nomatch h) ?_
   refine g_iteD (fun h1 => ?_) (fun h1 => ?_)
   ·rw [neverM, if_pos h0, if_pos h1]
    refine g_fin ?_
    exact g_end [0, 1] (show ∀ k, k < 2 → ([0, 1] : List Nat)[k]? = some k by decide) (by decide) (rfl) ⟨leB.refl _, rfl, trivial⟩
   ·refine g_iteD (fun h2 => ?_) (fun h2 => ?_)
    ·rw [neverM, if_pos h0, if_neg h1, if_pos h2]
     refine g_fin ?_
     exact g_end [0, 1] (show ∀ k, k < 2 → ([0, 1] : List Nat)[k]? = some k by decide) (by decide) (rfl) ⟨leB.refl _, rfl, trivial⟩
    ·refine g_iteD (fun h3 => ?_) (fun h3 => ?_)
     ·refine g_callH (AFunH.frameB [0, 1] (hr (xV t i).2.1 i n m (hU h0).1 (hU h0).2 (by omega) hm) rfl rfl rfl rfl rfl rfl rfl) ?_
      rw [neverM, if_pos h0, if_neg h1, if_neg h2, if_pos h3]
      refine g_fin ?_
      exact g_end [0, 1] (show ∀ k, k < 2 → ([0, 1] : List Nat)[k]? = some k by decide) (by decide) (rfl) ⟨leB.refl _, rfl, trivial⟩
     ·rw [neverM, if_pos h0, if_neg h1, if_neg h2, if_neg h3]
      refine g_fin ?_
      exact g_end [0, 1] (show ∀ k, k < 2 → ([0, 1] : List Nat)[k]? = some k by decide) (by decide) (rfl) ⟨leB.refl _, rfl, trivial⟩
  ·refine g_call (kind_fun t (xV t i).2.1 i) (fun h => nomatch h) ?_
   refine g_iteD (fun h1 => ?_) (fun h1 => ?_)
   ·refine g_call (kind_fun t (xV t i).2.2.1 i) (fun h => nomatch h) ?_
    refine g_iteD (fun h2 => ?_) (fun h2 => ?_)
    ·rw [neverM, if_neg h0, if_pos h1, if_pos h2]
     refine g_fin ?_
     exact g_end [0, 1] (show ∀ k, k < 2 → ([0, 1] : List Nat)[k]? = some k by decide) (by decide) (rfl) ⟨leB.refl _, rfl, trivial⟩
    ·refine g_stop (RunN.keep [0, 1, 2] (true :: true :: F2 (false :: true :: F32 (F32 (F32 (F16 (F8 (F4 (F2 (false :: []))))))))) (show ∀ k, k < 2 → ([0, 1, 2] : List Nat)[k]? = some k by decide) (by decide) rfl rfl ?_)
     rw [neverM, if_neg h0, if_pos h1, if_neg h2]; exact never_r7 t n m i k bd hd hr hk hbl hm hi (by omega)
   ·refine g_stop (RunN.keep [0, 1, 2] (true :: true :: F2 (false :: true :: F32 (F32 (F32 (F16 (F8 (F4 (F2 (false :: []))))))))) (show ∀ k, k < 2 → ([0, 1, 2] : List Nat)[k]? = some k by decide) (by decide) rfl rfl ?_)
    rw [neverM, if_neg h0, if_neg h1]; exact never_r7 t n m i k bd hd hr hk hbl hm hi (by omega)

section
variable {M M' : Type} {V : M → M' → Prop} {t u : ETrace} {bd : Int} {rec : Int → Int → M → EVal × M} {rec' : Int → Int → M' → EVal × M'}
theorem iteRel {α β : Type} {R : α → β → Prop} {c : Prop} [Decidable c] {a b : α} {x y : β} (h : c → R a x) (h' : ¬ c → R b y) : R (if c then a else b) (if c then x else y) := by
 by_cases hc : c
 ·rw [if_pos hc, if_pos hc]; exact h hc
 ·rw [if_neg hc, if_neg hc]; exact h' hc
def PairR (V : M → M' → Prop) (x : Bool × M) (y : Bool × M') : Prop := x.1 = y.1 ∧ V x.2 y.2
theorem neverM_rel (hs : SameX t u) (hd : DomT t) (hr : RelM V bd rec rec') {i : Int} {w : M} {w' : M'} (h0 : 0 ≤ i) (hi : i < bd) (hl : i < (t.2.2.2.1.length : Int)) (ho : (insV t i).1 = 7 ∨ (insV t i).1 = 8) (hm : V w w') : (neverM rec t i w).1 = (neverM rec' u i w').1 ∧ V (neverM rec t i w).2 (neverM rec' u i w').2 := by
 show PairR V (neverM rec t i w) (neverM rec' u i w')
 have o := hs.op i
 have a := hs.a i
 have b := hs.b i
 have c := hs.n i
 rcases ho with ho | ho
 ·obtain ⟨a0, a1, b0, b1⟩ := hd.bin i h0 hl ho
  obtain ⟨e1, v1⟩ := hr _ i w w' a0 a1 hi hm
  obtain ⟨e2, v2⟩ := hr _ i _ _ b0 b1 hi v1
  obtain ⟨e3, v3⟩ := reckM_rel hs hd hr h0 hi hl ho hm
  have n8 : ¬ (insV t i).1 = 8 := by rw [ho]; decide
  unfold insV at o a b c e1 e2 v1 v2 n8
  have hdiv : PairR V (divM rec t i w) (divM rec' u i w') := by
   unfold divM
   rw [← a, ← b, e1, e2]
   repeat' first | exact ⟨rfl, v2⟩ | refine iteRel (R := PairR V) (fun _ => ?_) (fun _ => ?_)
  have hsum : PairR V (sumM rec t i w) (sumM rec' u i w') := by
   unfold sumM
   rw [e3]
   repeat' first | exact ⟨rfl, v3⟩ | refine iteRel (R := PairR V) (fun _ => ?_) (fun _ => ?_)
  have hnev : PairR V (nev7 rec t i w) (nev7 rec' u i w') := by
   unfold nev7
   rw [← c, ← hs.ints]
   repeat' first | exact ⟨rfl, hm⟩ | exact hdiv | exact hsum | refine iteRel (R := PairR V) (fun _ => ?_) (fun _ => ?_)
  unfold neverM
  rw [← o, ← a, ← b, ← c, ← hs.kind, ← hs.kind, if_neg n8, if_neg n8]
  repeat' first | exact ⟨rfl, hm⟩ | exact hnev | refine iteRel (R := PairR V) (fun _ => ?_) (fun _ => ?_)
 ·obtain ⟨a0, a1⟩ := hd.un i h0 hl ho
  obtain ⟨e1, v1⟩ := hr _ i w w' a0 a1 hi hm
  unfold insV at o a b c e1 v1 ho
  unfold neverM
  rw [← o, ← a, ← b, ← c, ← hs.kind, ← hs.kind, if_pos ho, if_pos ho, e1]
  repeat' first | exact ⟨rfl, hm⟩ | exact ⟨rfl, v1⟩ | refine iteRel (R := PairR V) (fun _ => ?_) (fun _ => ?_)
end
def neverF (t : ETrace) (i : Int) : Bool := (neverM (fun v a (m : Unit) => (spanF t v a, m)) t i ()).1
theorem neverM_ok {t : ETrace} (hd : DomT t) {k : Nat} (hk : t.2.2.2.1.length ≤ k) {i : Int} {w : EMem} (h0 : 0 ≤ i) (hl : i < (t.2.2.2.1.length : Int)) (ho : (insV t i).1 = 7 ∨ (insV t i).1 = 8) (hm : KeptOk t w) : (neverM (spanM t k) t i w).1 = neverF t i ∧ KeptOk t (neverM (spanM t k) t i w).2 :=
 neverM_rel (V := fun (x : EMem) (_ : Unit) => KeptOk t x) (SameX.refl t) hd (spanM_rel hd (bd := (t.2.2.2.1.length : Int)) (by omega) (Int.le_refl _)) h0 hl hl ho hm (w' := ())
theorem neverF_same {t u : ETrace} (hs : SameX t u) (hd : DomT t) {i : Int} (h0 : 0 ≤ i) (hl : i < (t.2.2.2.1.length : Int)) (ho : (insV t i).1 = 7 ∨ (insV t i).1 = 8) : neverF t i = neverF u i :=
 (neverM_rel (V := fun (_ _ : Unit) => True) hs hd (bd := (t.2.2.2.1.length : Int)) (rec := fun v a (m : Unit) => (spanF t v a, m)) (rec' := fun v a (m : Unit) => (spanF u v a, m)) (fun v a _ _ q0 q1 q2 _ => ⟨spanP_more hs hd _ _ v a (by omega) (by omega) q0 q1 (by omega), trivial⟩) h0 hl hl ho (w := ()) (w' := ()) trivial).1
end Go.Proofs.YtefkifdhjabdiaaDoor
namespace Go.Proofs.YtefkifdhjabdiaaDoor
set_option linter.unusedVariables false
set_option linter.unusedSimpArgs false
set_option maxRecDepth 100000
def cutOne (at_ : List Int) (v : Int) : Int × Bool := if v < 0 then (-1, false) else if (at_.length : Int) ≤ v then (-1, false) else if at_.getD v.toNat tI.dflt < 0 then (-1, false) else (at_.getD v.toNat tI.dflt, true)
noncomputable def oc20 : Orc where
 pure := fun f args => match f, args with
  | _, _ => none
 heap := fun _ _ _ => none
def one_lv : LV := ⟨([]), []⟩
noncomputable def one_T (at_ : List Int) (fine : Bool) (v : Int) : Tree :=
 .ite (decide (v < 0))
 (.ret (.c (.int .i64 (-1))) [.cells 97 [.osl 1 1 at_.length, .lit false], .ovec 3 tI at_])
 (.ite (decide (((at_.length : Nat) : Int) ≤ v))
  (.ret (.c (.int .i64 (-1))) [.cells 97 [.osl 1 1 at_.length, .lit false], .ovec 3 tI at_])
  (.need ((0 : Int) ≤ v ∧ (v : Int) < ((at_.length : Nat) : Int)) <|
  .need ((Int.toNat v) < at_.length) <|
  .ite (decide ((at_.getD (Int.toNat v) tI.dflt) < 0))
  (.ret (.c (.int .i64 (-1))) [.cells 97 [.osl 1 1 at_.length, .lit false], .ovec 3 tI at_])
  (.need ((0 : Int) ≤ v ∧ (v : Int) < ((at_.length : Nat) : Int)) <|
   .need ((Int.toNat v) < at_.length) <|
   .ret (.c (.int .i64 (at_.getD (Int.toNat v) tI.dflt))) [.cells 97 [.osl 1 1 at_.length, .bool fine], .ovec 3 tI at_])))
theorem one_T_ok (at_ : List Int) (fine : Bool) (v : Int) : aRun Tryd.prog oc20 Tryd.f88 one_lv 3000 [.code (bodyOf Tryd.f88)] ([.c (.ptr 0 0 0 0), .c (.int .i64 v)] ++ List.replicate (Func.ntmps Tryd.f88 - 2) .junk) [.cells 97 [.osl 1 1 at_.length, .bool fine], .ovec 3 tI at_] = one_T at_ fine v := by kernel_rfl
theorem one_fun (at_ : List Int) (fine : Bool) (v : Int) : AFunH Tryd.prog 88 [.c (.ptr 0 0 0 0), .c (.int .i64 v)] [.cells 97 [.osl 1 1 at_.length, .bool fine], .ovec 3 tI at_] (.c (.int .i64 ((cutOne at_ v).1))) [.cells 97 [.osl 1 1 at_.length, .bool (fine && (cutOne at_ v).2)], .ovec 3 tI at_] (List.range 2) :=
 AFunH.ofL oc20 one_lv 3000 Tryd.func88 mixed rfl (by decide) (Nat.le_of_ble_eq_true rfl) rfl rfl (Nat.le_of_ble_eq_true rfl) _ (one_T_ok at_ fine v) fun hF => by
  unfold one_T
  refine g_iteD (fun h0 => ?_) (fun h0 => ?_)
  ·refine g_fin ?_
   exact g_end [0, 1] (show ∀ k, k < 2 → ([0, 1] : List Nat)[k]? = some k by decide) (by decide) (⟨rfl, (show ((-1) : Int) = (cutOne at_ v).1 from by simp only [cutOne, h0, if_true, if_false, Bool.and_false, Bool.and_true])⟩) ⟨⟨rfl, leC.refl _, (show (false : Bool) = (fine && (cutOne at_ v).2) from by simp only [cutOne, h0, if_true, if_false, Bool.and_false, Bool.and_true]), trivial⟩, leB.refl _, trivial⟩
  ·refine g_iteD (fun h1 => ?_) (fun h1 => ?_)
   ·refine g_fin ?_
    exact g_end [0, 1] (show ∀ k, k < 2 → ([0, 1] : List Nat)[k]? = some k by decide) (by decide) (⟨rfl, (show ((-1) : Int) = (cutOne at_ v).1 from by simp only [cutOne, h0, h1, if_true, if_false, Bool.and_false, Bool.and_true])⟩) ⟨⟨rfl, leC.refl _, (show (false : Bool) = (fine && (cutOne at_ v).2) from by simp only [cutOne, h0, h1, if_true, if_false, Bool.and_false, Bool.and_true]), trivial⟩, leB.refl _, trivial⟩
   ·refine g_need (by omega) ?_
    refine g_need (by omega) ?_
    refine g_iteD (fun h2 => ?_) (fun h2 => ?_)
    ·refine g_fin ?_
     exact g_end [0, 1] (show ∀ k, k < 2 → ([0, 1] : List Nat)[k]? = some k by decide) (by decide) (⟨rfl, (show ((-1) : Int) = (cutOne at_ v).1 from by simp only [cutOne, h0, h1, h2, if_true, if_false, Bool.and_false, Bool.and_true])⟩) ⟨⟨rfl, leC.refl _, (show (false : Bool) = (fine && (cutOne at_ v).2) from by simp only [cutOne, h0, h1, h2, if_true, if_false, Bool.and_false, Bool.and_true]), trivial⟩, leB.refl _, trivial⟩
    ·refine g_need (by omega) ?_
     refine g_need (by omega) ?_
     refine g_fin ?_
     exact g_end [0, 1] (show ∀ k, k < 2 → ([0, 1] : List Nat)[k]? = some k by decide) (by decide) (⟨rfl, (show ((at_.getD (Int.toNat v) tI.dflt) : Int) = (cutOne at_ v).1 from by simp only [cutOne, h0, h1, h2, if_true, if_false, Bool.and_false, Bool.and_true])⟩) ⟨⟨rfl, leC.refl _, (show (fine : Bool) = (fine && (cutOne at_ v).2) from by simp only [cutOne, h0, h1, h2, if_true, if_false, Bool.and_false, Bool.and_true]), trivial⟩, leB.refl _, trivial⟩

def cutSet (at_ : List Int) (s : EVal) : EVal := (s.1, (cutOne at_ s.2).1)
def cutSetOk (at_ : List Int) (s : EVal) : Bool := (cutOne at_ s.2).2
def cutMake (at_ : List Int) (m : EMake) : EMake := ((cutOne at_ m.1).1, m.2.1, m.2.2.1, m.2.2.2.map fun v => (cutOne at_ v).1)
def cutMakeOk (at_ : List Int) (m : EMake) : Bool := (cutOne at_ m.1).2 && m.2.2.2.all fun v => (cutOne at_ v).2
def cutExit (at_ : List Int) (x : EExit) : EExit := (x.1, x.2.1, x.2.2.1.map (cutSet at_), x.2.2.2.map (cutMake at_))
def cutExitOk (at_ : List Int) (x : EExit) : Bool := x.2.2.1.all (cutSetOk at_) && x.2.2.2.all (cutMakeOk at_)
/-- An exit of a size that can be. -/
def exitSm (x : EExit) : Prop := x.2.2.1.length ≤ 1000000 ∧ x.2.2.2.length ≤ 1000000 ∧ ∀ m ∈ x.2.2.2, m.2.2.2.length ≤ 1000000
noncomputable def oc21 : Orc where
 pure := fun f args => match f, args with
  | _, _ => none
 heap := fun f args H => match f, args with
  | 88, [.one (.c (.ptr b0 0 0 0)), a1] => match cellsAs 97 H[b0]? with
   | some [.osl b1 1 _, c0_1] => (match dA tI a1, dC .bool c0_1, ovecAs 3 tI H[b1]? with
    | some x1, some y0_1, some y1 => hres [b0, b1] H (.c (.int .i64 ((cutOne y1 x1).1))) [.cells 97 [.osl 1 1 y1.length, .bool (y0_1 && (cutOne y1 x1).2)], .ovec 3 tI y1]
    | _, _, _ => none)
   | _ => none
  | _, _ => none
def cexit_lv : LV := ⟨(true :: F2 (true :: true :: true :: F4 (true :: F8 (true :: true :: true :: F16 (false :: true :: true :: true :: F8 (F4 (false :: true :: true :: true :: F16 (F4 ([]))))))))), []⟩
noncomputable def cexit_T (at_ : List Int) (fine : Bool) (x : EExit) : Tree :=
 .stop (lp (bodyOf Tryd.f49) 0) (.c (.ptr 0 0 0 0) :: J2 (.c (.ptr 2 0 0 0) :: .c (.ptr 3 0 0 0) :: .c (.ptr 4 0 0 0) :: J8 (J4 (.junk :: .c (.ro tVal x.2.2.1) :: .c (.int .i64 (x.2.2.1.length : Int)) :: .c (.int .i64 0) :: J32 (J16 (J8 ([]))))))) [.cells 97 [.osl 1 1 at_.length, .bool fine], .ovec 3 tI at_, .cells 27 (Ty.enc tExit x), .cells 27 [.int .i64 0, .int .i64 0, .nilsl, .nilsl], .cells 27 [.int .i64 x.1, .int .i64 x.2.1, .nilsl, .nilsl]]
theorem cexit_T_ok (at_ : List Int) (fine : Bool) (x : EExit) : aRun Tryd.prog oc21 Tryd.f49 cexit_lv 3000 [.code (bodyOf Tryd.f49)] ([.c (.ptr 0 0 0 0), .agg (tExit.enc x)] ++ List.replicate (Func.ntmps Tryd.f49 - 2) .junk) [.cells 97 [.osl 1 1 at_.length, .bool fine], .ovec 3 tI at_] = cexit_T at_ fine x := by kernel_rfl
noncomputable def cexit_l0_R (at_ : List Int) (fine : Bool) (x : EExit) (i : Nat) (f : Bool) (ss : List EVal) : Tree :=
 .ite (decide (((i : Nat) : Int) < (x.2.2.1.length : Int)))
 (.need ((0 : Int) ≤ ((i : Nat) : Int) ∧ (((i : Nat) : Int) : Int) < (x.2.2.1.length : Int)) <|
  .need (i < x.2.2.1.length) <|
  .callH 88 [.c (.ptr 0 0 0 0), .c (.int .i64 (x.2.2.1.getD i tVal.dflt).2)] [.cells 97 [.osl 1 1 at_.length, .bool f], .ovec 3 tI at_, .cells 27 (Ty.enc tExit x), .cells 27 [.int .i64 0, .int .i64 0, .nilsl, .nilsl], .cells 27 [.int .i64 x.1, .int .i64 x.2.1, .osl 5 2 ss.length, .nilsl], .ovec 116 tVal ss, .cells 116 [.int .i64 (x.2.2.1.getD i tVal.dflt).1, .int .i64 (x.2.2.1.getD i tVal.dflt).2]] (.c (.int .i64 (cutOne at_ (x.2.2.1.getD i tVal.dflt).2).1)) [.cells 97 [.osl 1 1 at_.length, .bool (f && (cutOne at_ (x.2.2.1.getD i tVal.dflt).2).2)], .ovec 3 tI at_, .cells 27 (Ty.enc tExit x), .cells 27 [.int .i64 0, .int .i64 0, .nilsl, .nilsl], .cells 27 [.int .i64 x.1, .int .i64 x.2.1, .osl 5 2 ss.length, .nilsl], .ovec 116 tVal ss, .cells 116 [.int .i64 (x.2.2.1.getD i tVal.dflt).1, .int .i64 (x.2.2.1.getD i tVal.dflt).2]] [0, 1] <|
  .need (ss.length = ss.length) <|
  .need (0 = 0 ∧ 1 = ([((x.2.2.1.getD i tVal.dflt).1, (cutOne at_ (x.2.2.1.getD i tVal.dflt).2).1)]).length) <|
  .need ((ss.length + ([((x.2.2.1.getD i tVal.dflt).1, (cutOne at_ (x.2.2.1.getD i tVal.dflt).2).1)]).length) * 16 ≤ 140737488355328) <|
  .need (inR .i64 (((i : Nat) : Int) + 1)) <|
  .stop (lp (bodyOf Tryd.f49) 0) (.c (.ptr 0 0 0 0) :: J2 (.c (.ptr 2 0 0 0) :: .c (.ptr 3 0 0 0) :: .c (.ptr 4 0 0 0) :: J8 (J4 (.junk :: .c (.ro tVal x.2.2.1) :: .c (.int .i64 (x.2.2.1.length : Int)) :: .c (.int .i64 (((i : Nat) : Int) + 1)) :: J32 (J16 (J8 ([]))))))) [.cells 97 [.osl 1 1 at_.length, .bool (f && (cutOne at_ (x.2.2.1.getD i tVal.dflt).2).2)], .ovec 3 tI at_, .cells 27 (Ty.enc tExit x), .cells 27 [.int .i64 0, .int .i64 0, .nilsl, .nilsl], .cells 27 [.int .i64 x.1, .int .i64 x.2.1, .osl 8 2 (ss ++ [((x.2.2.1.getD i tVal.dflt).1, (cutOne at_ (x.2.2.1.getD i tVal.dflt).2).1)]).length, .nilsl], .dead, .cells 116 [.int .i64 (x.2.2.1.getD i tVal.dflt).1, .int .i64 (x.2.2.1.getD i tVal.dflt).2], .vec 116 tVal ([((x.2.2.1.getD i tVal.dflt).1, (cutOne at_ (x.2.2.1.getD i tVal.dflt).2).1)]), .ovec 116 tVal (ss ++ [((x.2.2.1.getD i tVal.dflt).1, (cutOne at_ (x.2.2.1.getD i tVal.dflt).2).1)])])
 (.stop (lp (bodyOf Tryd.f49) 1) (.c (.ptr 0 0 0 0) :: J2 (.c (.ptr 2 0 0 0) :: .c (.ptr 3 0 0 0) :: .c (.ptr 4 0 0 0) :: J8 (J4 (.junk :: .c (.ro tVal x.2.2.1) :: .c (.int .i64 (x.2.2.1.length : Int)) :: .c (.int .i64 ((i : Nat) : Int)) :: J16 (.junk :: .c (.ro tMake x.2.2.2) :: .c (.int .i64 (x.2.2.2.length : Int)) :: .c (.int .i64 0) :: J32 (J4 ([]))))))) [.cells 97 [.osl 1 1 at_.length, .bool f], .ovec 3 tI at_, .cells 27 (Ty.enc tExit x), .cells 27 [.int .i64 0, .int .i64 0, .nilsl, .nilsl], .cells 27 [.int .i64 x.1, .int .i64 x.2.1, .osl 5 2 ss.length, .nilsl], .ovec 116 tVal ss])
theorem cexit_l0_R_ok (at_ : List Int) (fine : Bool) (x : EExit) (i : Nat) (f : Bool) (ss : List EVal) : aRound Tryd.prog oc21 Tryd.f49 cexit_lv 3000 (lp (bodyOf Tryd.f49) 0) (.c (.ptr 0 0 0 0) :: J2 (.c (.ptr 2 0 0 0) :: .c (.ptr 3 0 0 0) :: .c (.ptr 4 0 0 0) :: J8 (J4 (.junk :: .c (.ro tVal x.2.2.1) :: .c (.int .i64 (x.2.2.1.length : Int)) :: .c (.int .i64 ((i : Nat) : Int)) :: J32 (J16 (J8 ([]))))))) [.cells 97 [.osl 1 1 at_.length, .bool f], .ovec 3 tI at_, .cells 27 (Ty.enc tExit x), .cells 27 [.int .i64 0, .int .i64 0, .nilsl, .nilsl], .cells 27 [.int .i64 x.1, .int .i64 x.2.1, .osl 5 2 ss.length, .nilsl], .ovec 116 tVal ss] = cexit_l0_R at_ fine x i f ss := by kernel_rfl
abbrev bCl0 (x : EExit) (j : Nat) : AB := .cells 118 [.int .i64 (x.2.2.2.getD j tMake.dflt).1, .int .i64 (x.2.2.2.getD j tMake.dflt).2.1, .int .i64 (x.2.2.2.getD j tMake.dflt).2.2.1, .ro tI (x.2.2.2.getD j tMake.dflt).2.2.2]
abbrev bCl6 (x : EExit) (ss : List EVal) (ms : List EMake) : AB := .cells 27 [.int .i64 x.1, .int .i64 x.2.1, .osl 4 2 ss.length, .osl 5 4 ms.length]
noncomputable def cexit_l1_R (at_ : List Int) (fine : Bool) (x : EExit) (j : Nat) (f : Bool) (ss : List EVal) (ms : List EMake) : Tree :=
 .ite (decide (((j : Nat) : Int) < (x.2.2.2.length : Int)))
 (.need ((0 : Int) ≤ ((j : Nat) : Int) ∧ (((j : Nat) : Int) : Int) < (x.2.2.2.length : Int)) <|
  .need (j < x.2.2.2.length) <|
  .callH 88 [.c (.ptr 0 0 0 0), .c (.int .i64 (x.2.2.2.getD j tMake.dflt).1)] [.cells 97 [.osl 1 1 at_.length, .bool f], .ovec 3 tI at_, .cells 27 [.int .i64 0, .int .i64 0, .nilsl, .nilsl], (bCl6 x ss ms), .ovec 116 tVal ss, .ovec 118 tMake ms, (bCl0 x j)] (.c (.int .i64 (cutOne at_ (x.2.2.2.getD j tMake.dflt).1).1)) [.cells 97 [.osl 1 1 at_.length, .bool (f && (cutOne at_ (x.2.2.2.getD j tMake.dflt).1).2)], .ovec 3 tI at_, .cells 27 [.int .i64 0, .int .i64 0, .nilsl, .nilsl], (bCl6 x ss ms), .ovec 116 tVal ss, .ovec 118 tMake ms, (bCl0 x j)] [0, 1] <|
  .stop (lp (bodyOf Tryd.f49) 2) (.c (.ptr 0 0 0 0) :: J2 (.junk :: .c (.ptr 2 0 0 0) :: .c (.ptr 3 0 0 0) :: J4 (.c (.ptr 7 0 0 0) :: J16 (J8 (J4 (.c (.ro tMake x.2.2.2) :: .c (.int .i64 (x.2.2.2.length : Int)) :: .c (.int .i64 ((j : Nat) : Int)) :: J8 (J4 (.junk :: .c (.ro tI (x.2.2.2.getD j tMake.dflt).2.2.2) :: .c (.int .i64 ((x.2.2.2.getD j tMake.dflt).2.2.2.length : Int)) :: .c (.int .i64 0) :: J16 (J4 ([])))))))))) [.cells 97 [.osl 1 1 at_.length, .bool (f && (cutOne at_ (x.2.2.2.getD j tMake.dflt).1).2)], .ovec 3 tI at_, .cells 27 [.int .i64 0, .int .i64 0, .nilsl, .nilsl], (bCl6 x ss ms), .ovec 116 tVal ss, .ovec 118 tMake ms, (bCl0 x j), .cells 118 [.int .i64 (cutOne at_ (x.2.2.2.getD j tMake.dflt).1).1, .int .i64 (x.2.2.2.getD j tMake.dflt).2.1, .int .i64 (x.2.2.2.getD j tMake.dflt).2.2.1, .nilsl]])
 (.ret (.agg [.int .i64 x.1, .int .i64 x.2.1, .osl 4 2 ss.length, .osl 5 4 ms.length]) [.cells 97 [.osl 1 1 at_.length, .bool f], .ovec 3 tI at_, (bCl6 x ss ms), (bCl6 x ss ms), .ovec 116 tVal ss, .ovec 118 tMake ms])
theorem cexit_l1_R_ok (at_ : List Int) (fine : Bool) (x : EExit) (j : Nat) (f : Bool) (ss : List EVal) (ms : List EMake) : aRound Tryd.prog oc21 Tryd.f49 cexit_lv 3000 (lp (bodyOf Tryd.f49) 1) (.c (.ptr 0 0 0 0) :: J2 (.junk :: .c (.ptr 2 0 0 0) :: .c (.ptr 3 0 0 0) :: J32 (.junk :: .c (.ro tMake x.2.2.2) :: .c (.int .i64 (x.2.2.2.length : Int)) :: .c (.int .i64 ((j : Nat) : Int)) :: J32 (J4 ([]))))) [.cells 97 [.osl 1 1 at_.length, .bool f], .ovec 3 tI at_, .cells 27 [.int .i64 0, .int .i64 0, .nilsl, .nilsl], (bCl6 x ss ms), .ovec 116 tVal ss, .ovec 118 tMake ms] = cexit_l1_R at_ fine x j f ss ms := by kernel_rfl
abbrev bCl1 (x : EExit) (j : Nat) (k : Nat) : List AV := (J4 (.junk :: .c (.ro tI (x.2.2.2.getD j tMake.dflt).2.2.2) :: .c (.int .i64 ((x.2.2.2.getD j tMake.dflt).2.2.2.length : Int)) :: .c (.int .i64 ((k : Nat) : Int)) :: J16 (J4 ([]))))
abbrev bCl2 (at_ : List Int) (x : EExit) (j : Nat) (vs : List Int) : AB := .cells 118 [.int .i64 (cutOne at_ (x.2.2.2.getD j tMake.dflt).1).1, .int .i64 (x.2.2.2.getD j tMake.dflt).2.1, .int .i64 (x.2.2.2.getD j tMake.dflt).2.2.1, .osl 7 1 vs.length]
noncomputable def cexit_l2_R (at_ : List Int) (fine : Bool) (x : EExit) (k : Nat) (j : Nat) (f : Bool) (ss : List EVal) (ms : List EMake) (vs : List Int) : Tree :=
 .ite (decide (((k : Nat) : Int) < ((x.2.2.2.getD j tMake.dflt).2.2.2.length : Int)))
 (.need ((0 : Int) ≤ ((k : Nat) : Int) ∧ (((k : Nat) : Int) : Int) < ((x.2.2.2.getD j tMake.dflt).2.2.2.length : Int)) <|
  .need (k < (x.2.2.2.getD j tMake.dflt).2.2.2.length) <|
  .callH 88 [.c (.ptr 0 0 0 0), .c (.int .i64 ((x.2.2.2.getD j tMake.dflt).2.2.2.getD k tI.dflt))] [.cells 97 [.osl 1 1 at_.length, .bool f], .ovec 3 tI at_, .cells 27 [.int .i64 0, .int .i64 0, .nilsl, .nilsl], (bCl6 x ss ms), .ovec 116 tVal ss, .ovec 118 tMake ms, (bCl2 at_ x j vs), .ovec 3 tI vs] (.c (.int .i64 (cutOne at_ ((x.2.2.2.getD j tMake.dflt).2.2.2.getD k tI.dflt)).1)) [.cells 97 [.osl 1 1 at_.length, .bool (f && (cutOne at_ ((x.2.2.2.getD j tMake.dflt).2.2.2.getD k tI.dflt)).2)], .ovec 3 tI at_, .cells 27 [.int .i64 0, .int .i64 0, .nilsl, .nilsl], (bCl6 x ss ms), .ovec 116 tVal ss, .ovec 118 tMake ms, (bCl2 at_ x j vs), .ovec 3 tI vs] [0, 1] <|
  .need (vs.length = vs.length) <|
  .need (0 = 0 ∧ 1 = ([(cutOne at_ ((x.2.2.2.getD j tMake.dflt).2.2.2.getD k tI.dflt)).1]).length) <|
  .need ((vs.length + ([(cutOne at_ ((x.2.2.2.getD j tMake.dflt).2.2.2.getD k tI.dflt)).1]).length) * 8 ≤ 140737488355328) <|
  .need (inR .i64 (((k : Nat) : Int) + 1)) <|
  .stop (lp (bodyOf Tryd.f49) 2) (.c (.ptr 0 0 0 0) :: J2 (.junk :: .c (.ptr 2 0 0 0) :: .c (.ptr 3 0 0 0) :: J4 (.c (.ptr 6 0 0 0) :: J16 (J8 (J4 (.c (.ro tMake x.2.2.2) :: .c (.int .i64 (x.2.2.2.length : Int)) :: .c (.int .i64 ((j : Nat) : Int)) :: J8 (J4 (.junk :: .c (.ro tI (x.2.2.2.getD j tMake.dflt).2.2.2) :: .c (.int .i64 ((x.2.2.2.getD j tMake.dflt).2.2.2.length : Int)) :: .c (.int .i64 (((k : Nat) : Int) + 1)) :: J16 (J4 ([])))))))))) [.cells 97 [.osl 1 1 at_.length, .bool (f && (cutOne at_ ((x.2.2.2.getD j tMake.dflt).2.2.2.getD k tI.dflt)).2)], .ovec 3 tI at_, .cells 27 [.int .i64 0, .int .i64 0, .nilsl, .nilsl], (bCl6 x ss ms), .ovec 116 tVal ss, .ovec 118 tMake ms, .cells 118 [.int .i64 (cutOne at_ (x.2.2.2.getD j tMake.dflt).1).1, .int .i64 (x.2.2.2.getD j tMake.dflt).2.1, .int .i64 (x.2.2.2.getD j tMake.dflt).2.2.1, .osl 9 1 (vs ++ [(cutOne at_ ((x.2.2.2.getD j tMake.dflt).2.2.2.getD k tI.dflt)).1]).length], .dead, .vec 3 tI ([(cutOne at_ ((x.2.2.2.getD j tMake.dflt).2.2.2.getD k tI.dflt)).1]), .ovec 3 tI (vs ++ [(cutOne at_ ((x.2.2.2.getD j tMake.dflt).2.2.2.getD k tI.dflt)).1])])
 (.need (vs.length = vs.length) <|
  .need (ms.length = ms.length) <|
  .need (0 = 0 ∧ 1 = ([((cutOne at_ (x.2.2.2.getD j tMake.dflt).1).1, ((x.2.2.2.getD j tMake.dflt).2.1, ((x.2.2.2.getD j tMake.dflt).2.2.1, vs)))]).length) <|
  .need ((ms.length + ([((cutOne at_ (x.2.2.2.getD j tMake.dflt).1).1, ((x.2.2.2.getD j tMake.dflt).2.1, ((x.2.2.2.getD j tMake.dflt).2.2.1, vs)))]).length) * 48 ≤ 140737488355328) <|
  .need (inR .i64 (((j : Nat) : Int) + 1)) <|
  .stop (lp (bodyOf Tryd.f49) 1) (.c (.ptr 0 0 0 0) :: J2 (.junk :: .c (.ptr 2 0 0 0) :: .c (.ptr 3 0 0 0) :: J4 (.c (.ptr 6 0 0 0) :: J16 (J8 (J4 (.c (.ro tMake x.2.2.2) :: .c (.int .i64 (x.2.2.2.length : Int)) :: .c (.int .i64 (((j : Nat) : Int) + 1)) :: J8 (bCl1 x j k))))))) [.cells 97 [.osl 1 1 at_.length, .bool f], .ovec 3 tI at_, .cells 27 [.int .i64 0, .int .i64 0, .nilsl, .nilsl], .cells 27 [.int .i64 x.1, .int .i64 x.2.1, .osl 4 2 ss.length, .osl 9 4 (ms ++ [((cutOne at_ (x.2.2.2.getD j tMake.dflt).1).1, ((x.2.2.2.getD j tMake.dflt).2.1, ((x.2.2.2.getD j tMake.dflt).2.2.1, vs)))]).length], .ovec 116 tVal ss, .dead, (bCl2 at_ x j vs), .dead, .vec 118 tMake ([((cutOne at_ (x.2.2.2.getD j tMake.dflt).1).1, ((x.2.2.2.getD j tMake.dflt).2.1, ((x.2.2.2.getD j tMake.dflt).2.2.1, vs)))]), .ovec 118 tMake (ms ++ [((cutOne at_ (x.2.2.2.getD j tMake.dflt).1).1, ((x.2.2.2.getD j tMake.dflt).2.1, ((x.2.2.2.getD j tMake.dflt).2.2.1, vs)))])])
theorem cexit_l2_R_ok (at_ : List Int) (fine : Bool) (x : EExit) (k : Nat) (j : Nat) (f : Bool) (ss : List EVal) (ms : List EMake) (vs : List Int) : aRound Tryd.prog oc21 Tryd.f49 cexit_lv 3000 (lp (bodyOf Tryd.f49) 2) (.c (.ptr 0 0 0 0) :: J2 (.junk :: .c (.ptr 2 0 0 0) :: .c (.ptr 3 0 0 0) :: J4 (.c (.ptr 6 0 0 0) :: J16 (J8 (J4 (.c (.ro tMake x.2.2.2) :: .c (.int .i64 (x.2.2.2.length : Int)) :: .c (.int .i64 ((j : Nat) : Int)) :: J8 (bCl1 x j k))))))) [.cells 97 [.osl 1 1 at_.length, .bool f], .ovec 3 tI at_, .cells 27 [.int .i64 0, .int .i64 0, .nilsl, .nilsl], (bCl6 x ss ms), .ovec 116 tVal ss, .ovec 118 tMake ms, (bCl2 at_ x j vs), .ovec 3 tI vs] = cexit_l2_R at_ fine x k j f ss ms vs := by kernel_rfl
theorem cexit_l2 (at_ : List Int) (fine : Bool) (x : EExit) (k : Nat) (j : Nat) (f : Bool) (ss : List EVal) (ms : List EMake) (vs : List Int) (hs : exitSm x) (hj : j < x.2.2.2.length ∧ ms.length ≤ j) (hb : vs.length ≤ k) (hn : ∀ (f' : Bool) (ms' : List EMake), ms'.length ≤ j + 1 → RunN 2 Tryd.prog 49 (finQ Tryd.prog 2 (.agg (Ty.enc tExit ((x.1, x.2.1, ss, ms' ++ (x.2.2.2.drop (j + 1)).map (cutMake at_))))) [.cells 97 [.osl 1 1 at_.length, .bool (f' && (x.2.2.2.drop (j + 1)).all (cutMakeOk at_))], .ovec 3 tI at_]) (lp (bodyOf Tryd.f49) 1) (.c (.ptr 0 0 0 0) :: J2 (.junk :: .c (.ptr 2 0 0 0) :: .c (.ptr 3 0 0 0) :: J32 (.junk :: .c (.ro tMake x.2.2.2) :: .c (.int .i64 (x.2.2.2.length : Int)) :: .c (.int .i64 (((j + 1) : Nat) : Int)) :: J32 (J4 ([]))))) [.cells 97 [.osl 1 1 at_.length, .bool f'], .ovec 3 tI at_, .cells 27 [.int .i64 0, .int .i64 0, .nilsl, .nilsl], .cells 27 [.int .i64 x.1, .int .i64 x.2.1, .osl 4 2 ss.length, .osl 5 4 ms'.length], .ovec 116 tVal ss, .ovec 118 tMake ms']) : RunN 2 Tryd.prog 49 (finQ Tryd.prog 2 (.agg (Ty.enc tExit ((x.1, x.2.1, ss, ms ++ ((cutOne at_ (x.2.2.2.getD j tMake.dflt).1).1, (x.2.2.2.getD j tMake.dflt).2.1, (x.2.2.2.getD j tMake.dflt).2.2.1, vs ++ ((x.2.2.2.getD j tMake.dflt).2.2.2.drop k).map (fun v => (cutOne at_ v).1)) :: (x.2.2.2.drop (j + 1)).map (cutMake at_))))) [.cells 97 [.osl 1 1 at_.length, .bool (f && (((x.2.2.2.getD j tMake.dflt).2.2.2.drop k).all (fun v => (cutOne at_ v).2) && (x.2.2.2.drop (j + 1)).all (cutMakeOk at_)))], .ovec 3 tI at_]) (lp (bodyOf Tryd.f49) 2) (.c (.ptr 0 0 0 0) :: J2 (.junk :: .c (.ptr 2 0 0 0) :: .c (.ptr 3 0 0 0) :: J4 (.c (.ptr 6 0 0 0) :: J16 (J8 (J4 (.c (.ro tMake x.2.2.2) :: .c (.int .i64 (x.2.2.2.length : Int)) :: .c (.int .i64 ((j : Nat) : Int)) :: J8 (bCl1 x j k))))))) [.cells 97 [.osl 1 1 at_.length, .bool f], .ovec 3 tI at_, .cells 27 [.int .i64 0, .int .i64 0, .nilsl, .nilsl], (bCl6 x ss ms), .ovec 116 tVal ss, .ovec 118 tMake ms, (bCl2 at_ x j vs), .ovec 3 tI vs] :=
 Run.roundA oc21 cexit_lv 3000 Tryd.func49 mixed (cexit_l2_R at_ fine x k j f ss ms vs) (cexit_l2_R_ok at_ fine x k j f ss ms vs) (by
  unfold cexit_l2_R
  refine g_iteD (fun h0 => ?_) (fun h0 => ?_)
  ·refine g_need (by omega) ?_
   refine g_need (by omega) ?_
   refine g_callH (AFunH.frameB [0, 1] (one_fun at_ f ((x.2.2.2.getD j tMake.dflt).2.2.2.getD k tI.dflt)) rfl rfl rfl rfl rfl rfl rfl) ?_
   refine g_need (rfl) ?_
   refine g_need (⟨rfl, rfl⟩) ?_
   refine g_need (by first | omega | (constructor <;> omega) | (rw [i64_iff]; omega) | (rw [i64_iff]; constructor <;> omega) | rfl | (simp; done) | (have q := hs.2.2 _ (getD_mem (α := EMake) (Ty.dflt tMake) (by omega : j < x.2.2.2.length)); have q1 := hs.1; have q2 := hs.2.1; (try simp only [List.length_cons, List.length_nil]); first | omega | (rw [i64_iff]; omega))) ?_
   refine g_need (by first | omega | (constructor <;> omega) | (rw [i64_iff]; omega) | (rw [i64_iff]; constructor <;> omega) | rfl | (simp; done) | (have q := hs.2.2 _ (getD_mem (α := EMake) (Ty.dflt tMake) (by omega : j < x.2.2.2.length)); have q1 := hs.1; have q2 := hs.2.1; (try simp only [List.length_cons, List.length_nil]); first | omega | (rw [i64_iff]; omega))) ?_
   refine g_stop (RunN.keep [0, 1, 2, 3, 4, 5, 6, 9] (true :: F2 (false :: true :: true :: F4 (true :: F16 (F8 (F4 (true :: true :: true :: F8 (F4 (false :: true :: true :: true :: F16 (F4 ([])))))))))) (show ∀ k, k < 2 → ([0, 1, 2, 3, 4, 5, 6, 9] : List Nat)[k]? = some k by decide) (by decide) rfl rfl ?_)
   have := cexit_l2 at_ fine x (k + 1) j (f && (cutOne at_ ((x.2.2.2.getD j tMake.dflt).2.2.2.getD k tI.dflt)).2) ss ms (vs ++ [(cutOne at_ ((x.2.2.2.getD j tMake.dflt).2.2.2.getD k tI.dflt)).1]) hs hj (by simp; omega) hn; have e1 : vs ++ ((x.2.2.2.getD j tMake.dflt).2.2.2.drop k).map (fun v => (cutOne at_ v).1) = (vs ++ [(cutOne at_ ((x.2.2.2.getD j tMake.dflt).2.2.2.getD k tI.dflt)).1]) ++ ((x.2.2.2.getD j tMake.dflt).2.2.2.drop (k + 1)).map (fun v => (cutOne at_ v).1) := (by rw [dropCons (α := Int) (Ty.dflt tI) (by omega)]; simp); have e2 : (f && (((x.2.2.2.getD j tMake.dflt).2.2.2.drop k).all (fun v => (cutOne at_ v).2) && (x.2.2.2.drop (j + 1)).all (cutMakeOk at_))) = ((f && (cutOne at_ ((x.2.2.2.getD j tMake.dflt).2.2.2.getD k tI.dflt)).2) && (((x.2.2.2.getD j tMake.dflt).2.2.2.drop (k + 1)).all (fun v => (cutOne at_ v).2) && (x.2.2.2.drop (j + 1)).all (cutMakeOk at_))) := (by rw [dropCons (α := Int) (Ty.dflt tI) (by omega), List.all_cons]; simp only [Bool.and_assoc]); rw [e1, e2]; exact this
  ·refine g_need (rfl) ?_
   refine g_need (rfl) ?_
   refine g_need (⟨rfl, rfl⟩) ?_
   refine g_need (by first | omega | (constructor <;> omega) | (rw [i64_iff]; omega) | (rw [i64_iff]; constructor <;> omega) | rfl | (simp; done) | (have q := hs.2.2 _ (getD_mem (α := EMake) (Ty.dflt tMake) (by omega : j < x.2.2.2.length)); have q1 := hs.1; have q2 := hs.2.1; (try simp only [List.length_cons, List.length_nil]); first | omega | (rw [i64_iff]; omega))) ?_
   refine g_need (by first | omega | (constructor <;> omega) | (rw [i64_iff]; omega) | (rw [i64_iff]; constructor <;> omega) | rfl | (simp; done) | (have q := hs.2.2 _ (getD_mem (α := EMake) (Ty.dflt tMake) (by omega : j < x.2.2.2.length)); have q1 := hs.1; have q2 := hs.2.1; (try simp only [List.length_cons, List.length_nil]); first | omega | (rw [i64_iff]; omega))) ?_
   refine g_stop (RunN.keep [0, 1, 2, 3, 4, 9] (true :: F2 (false :: true :: true :: F32 (false :: true :: true :: true :: F32 (F4 ([]))))) (show ∀ k, k < 2 → ([0, 1, 2, 3, 4, 9] : List Nat)[k]? = some k by decide) (by decide) rfl rfl ?_)
   have := hn f (ms ++ [((cutOne at_ (x.2.2.2.getD j tMake.dflt).1).1, (x.2.2.2.getD j tMake.dflt).2.1, (x.2.2.2.getD j tMake.dflt).2.2.1, vs)]) (by simp; omega); rw [show (x.2.2.2.getD j tMake.dflt).2.2.2.drop k = [] from List.drop_eq_nil_of_le (by omega), List.map_nil, List.append_nil, List.all_nil, Bool.true_and]; rw [List.append_assoc, List.singleton_append] at this; exact this
  )
 termination_by (x.2.2.2.getD j tMake.dflt).2.2.2.length - k
 decreasing_by all_goals omega
theorem cexit_l1 (at_ : List Int) (fine : Bool) (x : EExit) (j : Nat) (f : Bool) (ss : List EVal) (ms : List EMake) (hs : exitSm x) (hm : ms.length ≤ j) : RunN 2 Tryd.prog 49 (finQ Tryd.prog 2 (.agg (Ty.enc tExit ((x.1, x.2.1, ss, ms ++ (x.2.2.2.drop j).map (cutMake at_))))) [.cells 97 [.osl 1 1 at_.length, .bool (f && (x.2.2.2.drop j).all (cutMakeOk at_))], .ovec 3 tI at_]) (lp (bodyOf Tryd.f49) 1) (.c (.ptr 0 0 0 0) :: J2 (.junk :: .c (.ptr 2 0 0 0) :: .c (.ptr 3 0 0 0) :: J32 (.junk :: .c (.ro tMake x.2.2.2) :: .c (.int .i64 (x.2.2.2.length : Int)) :: .c (.int .i64 ((j : Nat) : Int)) :: J32 (J4 ([]))))) [.cells 97 [.osl 1 1 at_.length, .bool f], .ovec 3 tI at_, .cells 27 [.int .i64 0, .int .i64 0, .nilsl, .nilsl], (bCl6 x ss ms), .ovec 116 tVal ss, .ovec 118 tMake ms] :=
 Run.roundA oc21 cexit_lv 3000 Tryd.func49 mixed (cexit_l1_R at_ fine x j f ss ms) (cexit_l1_R_ok at_ fine x j f ss ms) (by
  unfold cexit_l1_R
  refine g_iteD (fun h0 => ?_) (fun h0 => ?_)
  ·refine g_need (by omega) ?_
   refine g_need (by omega) ?_
   refine g_callH (AFunH.frameB [0, 1] (one_fun at_ f (x.2.2.2.getD j tMake.dflt).1) rfl rfl rfl rfl rfl rfl rfl) ?_
   refine g_stop (RunN.keep [0, 1, 2, 3, 4, 5, 7, 1007] (true :: F2 (false :: true :: true :: F4 (true :: F16 (F8 (F4 (true :: true :: true :: F8 (F4 (false :: true :: true :: true :: F16 (F4 ([])))))))))) (show ∀ k, k < 2 → ([0, 1, 2, 3, 4, 5, 7, 1007] : List Nat)[k]? = some k by decide) (by decide) rfl rfl ?_)
   refine RunN.less (env' := (.c (.ptr 0 0 0 0) :: J2 (.junk :: .c (.ptr 2 0 0 0) :: .c (.ptr 3 0 0 0) :: J4 (.c (.ptr 6 0 0 0) :: J16 (J8 (J4 (.c (.ro tMake x.2.2.2) :: .c (.int .i64 (x.2.2.2.length : Int)) :: .c (.int .i64 ((j : Nat) : Int)) :: J8 (J4 (.junk :: .c (.ro tI (x.2.2.2.getD j tMake.dflt).2.2.2) :: .c (.int .i64 ((x.2.2.2.getD j tMake.dflt).2.2.2.length : Int)) :: .c (.int .i64 ((0 : Nat) : Int)) :: J16 (J4 ([]))))))))))) (H' := [.cells 97 [.osl 1 1 at_.length, .bool (f && (cutOne at_ (x.2.2.2.getD j tMake.dflt).1).2)], .ovec 3 tI at_, .cells 27 [.int .i64 0, .int .i64 0, .nilsl, .nilsl], (bCl6 x ss ms), .ovec 116 tVal ss, .ovec 118 tMake ms, .cells 118 [.int .i64 (cutOne at_ (x.2.2.2.getD j tMake.dflt).1).1, .int .i64 (x.2.2.2.getD j tMake.dflt).2.1, .int .i64 (x.2.2.2.getD j tMake.dflt).2.2.1, .osl 7 1 0], .ovec 3 tI ([])]) (leAVs.same rfl) (⟨leB.refl _, leB.refl _, leB.refl _, leB.refl _, leB.refl _, leB.refl _, ⟨rfl, leC.refl _, leC.refl _, leC.refl _, rfl, trivial⟩, rfl, trivial⟩) ?_
   have ht := cexit_l2 at_ fine x 0 j (f && (cutOne at_ (x.2.2.2.getD j tMake.dflt).1).2) ss ms ([]) hs ⟨by omega, hm⟩ (by simp) (fun f' ms' hq => cexit_l1 at_ fine x (j + 1) f' ss ms' hs hq); have e1 : ms ++ (x.2.2.2.drop j).map (cutMake at_) = ms ++ ((cutOne at_ (x.2.2.2.getD j tMake.dflt).1).1, (x.2.2.2.getD j tMake.dflt).2.1, (x.2.2.2.getD j tMake.dflt).2.2.1, [] ++ ((x.2.2.2.getD j tMake.dflt).2.2.2.drop 0).map (fun v => (cutOne at_ v).1)) :: (x.2.2.2.drop (j + 1)).map (cutMake at_) := (by rw [dropCons (α := EMake) (Ty.dflt tMake) (by omega : j < x.2.2.2.length)]; rfl); have e2 : (f && (x.2.2.2.drop j).all (cutMakeOk at_)) = ((f && (cutOne at_ (x.2.2.2.getD j tMake.dflt).1).2) && (((x.2.2.2.getD j tMake.dflt).2.2.2.drop 0).all (fun v => (cutOne at_ v).2) && (x.2.2.2.drop (j + 1)).all (cutMakeOk at_))) := (by rw [dropCons (α := EMake) (Ty.dflt tMake) (by omega : j < x.2.2.2.length), List.all_cons]; simp only [cutMakeOk, Bool.and_assoc, List.drop_zero]); rw [e1, e2]; exact ht
  ·refine g_fin ?_
   refine g_need (rfl) ?_
   refine g_need (rfl) ?_
   exact g_end [0, 1] (show ∀ k, k < 2 → ([0, 1] : List Nat)[k]? = some k by decide) (by decide) (⟨⟨rfl, (show (x.1 : Int) = (x.1, x.2.1, ss, ms ++ (x.2.2.2.drop j).map (cutMake at_)).1 from by first | rfl | (rw [List.drop_eq_nil_of_le (by omega)]; simp; done))⟩, ⟨rfl, (show (x.2.1 : Int) = (x.1, x.2.1, ss, ms ++ (x.2.2.2.drop j).map (cutMake at_)).2.1 from by first | rfl | (rw [List.drop_eq_nil_of_le (by omega)]; simp; done))⟩, ⟨rfl, (show (ss) = (x.1, x.2.1, ss, ms ++ (x.2.2.2.drop j).map (cutMake at_)).2.2.1 from by first | rfl | (rw [List.drop_eq_nil_of_le (by omega)]; simp; done))⟩, ⟨rfl, (show (ms) = (x.1, x.2.1, ss, ms ++ (x.2.2.2.drop j).map (cutMake at_)).2.2.2 from by first | rfl | (rw [List.drop_eq_nil_of_le (by omega)]; simp; done))⟩, trivial⟩) ⟨⟨rfl, leC.refl _, (show (f : Bool) = (f && (x.2.2.2.drop j).all (cutMakeOk at_)) from by first | rfl | (rw [List.drop_eq_nil_of_le (by omega)]; simp; done)), trivial⟩, leB.refl _, trivial⟩
  )
 termination_by x.2.2.2.length - j
 decreasing_by all_goals omega
theorem cexit_l0 (at_ : List Int) (fine : Bool) (x : EExit) (i : Nat) (f : Bool) (ss : List EVal) (hs : exitSm x) (hm : ss.length ≤ i) : RunN 2 Tryd.prog 49 (finQ Tryd.prog 2 (.agg (Ty.enc tExit ((x.1, x.2.1, ss ++ (x.2.2.1.drop i).map (cutSet at_), x.2.2.2.map (cutMake at_))))) [.cells 97 [.osl 1 1 at_.length, .bool (f && ((x.2.2.1.drop i).all (cutSetOk at_) && x.2.2.2.all (cutMakeOk at_)))], .ovec 3 tI at_]) (lp (bodyOf Tryd.f49) 0) (.c (.ptr 0 0 0 0) :: J2 (.c (.ptr 2 0 0 0) :: .c (.ptr 3 0 0 0) :: .c (.ptr 4 0 0 0) :: J8 (J4 (.junk :: .c (.ro tVal x.2.2.1) :: .c (.int .i64 (x.2.2.1.length : Int)) :: .c (.int .i64 ((i : Nat) : Int)) :: J32 (J16 (J8 ([]))))))) [.cells 97 [.osl 1 1 at_.length, .bool f], .ovec 3 tI at_, .cells 27 (Ty.enc tExit x), .cells 27 [.int .i64 0, .int .i64 0, .nilsl, .nilsl], .cells 27 [.int .i64 x.1, .int .i64 x.2.1, .osl 5 2 ss.length, .nilsl], .ovec 116 tVal ss] :=
 Run.roundA oc21 cexit_lv 3000 Tryd.func49 mixed (cexit_l0_R at_ fine x i f ss) (cexit_l0_R_ok at_ fine x i f ss) (by
  unfold cexit_l0_R
  refine g_iteD (fun h0 => ?_) (fun h0 => ?_)
  ·refine g_need (by omega) ?_
   refine g_need (by omega) ?_
   refine g_callH (AFunH.frameB [0, 1] (one_fun at_ f (x.2.2.1.getD i tVal.dflt).2) rfl rfl rfl rfl rfl rfl rfl) ?_
   refine g_need (rfl) ?_
   refine g_need (⟨rfl, rfl⟩) ?_
   refine g_need (by first | omega | (constructor <;> omega) | (rw [i64_iff]; omega) | (rw [i64_iff]; constructor <;> omega) | rfl | (simp; done) | (have q1 := hs.1; have q2 := hs.2.1; (try simp only [List.length_cons, List.length_nil]); first | omega | (rw [i64_iff]; omega))) ?_
   refine g_need (by first | omega | (constructor <;> omega) | (rw [i64_iff]; omega) | (rw [i64_iff]; constructor <;> omega) | rfl | (simp; done) | (have q1 := hs.1; have q2 := hs.2.1; (try simp only [List.length_cons, List.length_nil]); first | omega | (rw [i64_iff]; omega))) ?_
   refine g_stop (RunN.keep [0, 1, 2, 3, 4, 8] (true :: F2 (true :: true :: true :: F8 (F4 (false :: true :: true :: true :: F32 (F16 (F8 ([]))))))) (show ∀ k, k < 2 → ([0, 1, 2, 3, 4, 8] : List Nat)[k]? = some k by decide) (by decide) rfl rfl ?_)
   have ht := cexit_l0 at_ fine x (i + 1) (f && (cutOne at_ (x.2.2.1.getD i tVal.dflt).2).2) (ss ++ [((x.2.2.1.getD i tVal.dflt).1, (cutOne at_ (x.2.2.1.getD i tVal.dflt).2).1)]) hs (by simp; omega); have e1 : ss ++ (x.2.2.1.drop i).map (cutSet at_) = (ss ++ [cutSet at_ (x.2.2.1.getD i tVal.dflt)]) ++ (x.2.2.1.drop (i + 1)).map (cutSet at_) := (by rw [dropCons (α := EVal) (Ty.dflt tVal) (by omega)]; simp); have e2 : (f && ((x.2.2.1.drop i).all (cutSetOk at_) && x.2.2.2.all (cutMakeOk at_))) = ((f && (cutOne at_ (x.2.2.1.getD i tVal.dflt).2).2) && ((x.2.2.1.drop (i + 1)).all (cutSetOk at_) && x.2.2.2.all (cutMakeOk at_))) := (by rw [dropCons (α := EVal) (Ty.dflt tVal) (by omega), List.all_cons]; simp only [cutSetOk, Bool.and_assoc]); rw [e1, e2]; exact ht
  ·refine g_stop (RunN.keep [0, 1, 3, 4, 5, 1005] (true :: F2 (false :: true :: true :: F32 (false :: true :: true :: true :: F32 (F4 ([]))))) (show ∀ k, k < 2 → ([0, 1, 3, 4, 5, 1005] : List Nat)[k]? = some k by decide) (by decide) rfl rfl ?_)
   refine RunN.less (env' := (.c (.ptr 0 0 0 0) :: J2 (.junk :: .c (.ptr 2 0 0 0) :: .c (.ptr 3 0 0 0) :: J32 (.junk :: .c (.ro tMake x.2.2.2) :: .c (.int .i64 (x.2.2.2.length : Int)) :: .c (.int .i64 ((0 : Nat) : Int)) :: J32 (J4 ([])))))) (H' := [.cells 97 [.osl 1 1 at_.length, .bool f], .ovec 3 tI at_, .cells 27 [.int .i64 0, .int .i64 0, .nilsl, .nilsl], .cells 27 [.int .i64 x.1, .int .i64 x.2.1, .osl 4 2 ss.length, .osl 5 4 0], .ovec 116 tVal ss, .ovec 118 tMake ([])]) (leAVs.same rfl) (⟨leB.refl _, leB.refl _, leB.refl _, ⟨rfl, leC.refl _, leC.refl _, leC.refl _, rfl, trivial⟩, leB.refl _, rfl, trivial⟩) ?_
   have ht := cexit_l1 at_ fine x 0 f ss ([]) hs (by simp); rw [List.drop_zero, List.nil_append] at ht; rw [show x.2.2.1.drop i = [] from List.drop_eq_nil_of_le (by omega), List.map_nil, List.append_nil, List.all_nil, Bool.true_and]; exact ht
  )
 termination_by x.2.2.1.length - i
 decreasing_by all_goals omega
theorem cexit_fun (at_ : List Int) (fine : Bool) (x : EExit) (hs : exitSm x) : AFunH Tryd.prog 49 [.c (.ptr 0 0 0 0), .agg (tExit.enc x)] [.cells 97 [.osl 1 1 at_.length, .bool fine], .ovec 3 tI at_] (.agg (Ty.enc tExit (cutExit at_ x))) [.cells 97 [.osl 1 1 at_.length, .bool (fine && cutExitOk at_ x)], .ovec 3 tI at_] (List.range 2) :=
 AFunH.ofL oc21 cexit_lv 3000 Tryd.func49 mixed rfl (by decide) (Nat.le_of_ble_eq_true rfl) rfl rfl (Nat.le_of_ble_eq_true rfl) _ (cexit_T_ok at_ fine x) fun hF => by
  unfold cexit_T
  refine g_stop (RunN.keep [0, 1, 2, 3, 4, 1005] (true :: F2 (true :: true :: true :: F8 (F4 (false :: true :: true :: true :: F32 (F16 (F8 ([]))))))) (show ∀ k, k < 2 → ([0, 1, 2, 3, 4, 1005] : List Nat)[k]? = some k by decide) (by decide) rfl rfl ?_)
  refine RunN.less (env' := (.c (.ptr 0 0 0 0) :: J2 (.c (.ptr 2 0 0 0) :: .c (.ptr 3 0 0 0) :: .c (.ptr 4 0 0 0) :: J8 (J4 (.junk :: .c (.ro tVal x.2.2.1) :: .c (.int .i64 (x.2.2.1.length : Int)) :: .c (.int .i64 ((0 : Nat) : Int)) :: J32 (J16 (J8 ([])))))))) (H' := [.cells 97 [.osl 1 1 at_.length, .bool fine], .ovec 3 tI at_, .cells 27 (Ty.enc tExit x), .cells 27 [.int .i64 0, .int .i64 0, .nilsl, .nilsl], .cells 27 [.int .i64 x.1, .int .i64 x.2.1, .osl 5 2 0, .nilsl], .ovec 116 tVal ([])]) (leAVs.same rfl) (⟨leB.refl _, leB.refl _, leB.refl _, leB.refl _, ⟨rfl, leC.refl _, leC.refl _, rfl, leC.refl _, trivial⟩, rfl, trivial⟩) ?_
  exact cexit_l0 at_ fine x 0 fine ([]) hs (by simp)

def stepV (at_ : List Int) (n k v : Int) : Int := if k < n then (cutOne at_ v).1 else v
def stepOk (at_ : List Int) (n k v : Int) : Bool := if k < n then (cutOne at_ v).2 else true
def cutAsks (op : Int) : Int := if (ofF op).2 = true then (ofF op).1.1 else 0
def cutIns (at_ : List Int) (x : EIns) : EIns := (x.1, stepV at_ (cutAsks x.1) 0 x.2.1, stepV at_ (cutAsks x.1) 1 x.2.2.1, stepV at_ (cutAsks x.1) 2 x.2.2.2.1, x.2.2.2.2)
def cutInsOk (at_ : List Int) (x : EIns) : Bool := stepOk at_ (cutAsks x.1) 0 x.2.1 && (stepOk at_ (cutAsks x.1) 1 x.2.2.1 && stepOk at_ (cutAsks x.1) 2 x.2.2.2.1)
noncomputable def oc22 : Orc where
 pure := fun f args => match f, args with
  | 43, [a0] => match dA tI a0 with
   | some x0 => some (.tup [.agg (Ty.enc tForm ((ofF x0).1)), .c (.bool ((ofF x0).2))])
   | _ => none
  | _, _ => none
 heap := fun f args H => match f, args with
  | 88, [.one (.c (.ptr b0 0 0 0)), a1] => match cellsAs 97 H[b0]? with
   | some [.osl b1 1 _, c0_1] => (match dA tI a1, dC .bool c0_1, ovecAs 3 tI H[b1]? with
    | some x1, some y0_1, some y1 => hres [b0, b1] H (.c (.int .i64 ((cutOne y1 x1).1))) [.cells 97 [.osl 1 1 y1.length, .bool (y0_1 && (cutOne y1 x1).2)], .ovec 3 tI y1]
    | _, _, _ => none)
   | _ => none
  | _, _ => none
def cins_lv : LV := ⟨(true :: F2 (true :: true :: F16 (F2 (true :: true :: true :: F8 (F4 ([])))))), []⟩
abbrev bCl5 : AB := .cells 46 [.int .i64 0, .int .i64 0, .int .i64 0, .int .i64 0, .int .i64 0, .int .i64 0, .int .i64 0, .int .i64 0]
noncomputable def cins_T (at_ : List Int) (fine : Bool) (x : EIns) : Tree :=
 .call 43 [.c (.int .i64 x.1)] false (.tup [.agg [.int .i64 (ofF x.1).1.1, .int .i64 (ofF x.1).1.2.1, .int .i64 (ofF x.1).1.2.2.1, .bool (ofF x.1).1.2.2.2.1, .bool (ofF x.1).1.2.2.2.2.1, .int .i64 (ofF x.1).1.2.2.2.2.2], .c (.bool (ofF x.1).2)]) <|
 .ite ((ofF x.1).2)
 (.need ((0 : Int) ≤ (ofF x.1).1.1 ∧ ((ofF x.1).1.1 : Int) ≤ ((3 : Nat) : Int)) <|
  .stop (lp (bodyOf Tryd.f48) 0) (.c (.ptr 0 0 0 0) :: J2 (.c (.ptr 2 0 0 0) :: .c (.ptr 3 0 0 0) :: J16 (J2 (.c (.pre 5 1 (Int.toNat (ofF x.1).1.1)) :: .c (.int .i64 (((Int.toNat (ofF x.1).1.1) : Nat) : Int)) :: .c (.int .i64 0) :: J8 (J4 ([])))))) [.cells 97 [.osl 1 1 at_.length, .bool fine], .ovec 3 tI at_, .cells 46 (Ty.enc tIns x), bCl5, .cells 88 [.int .i64 (ofF x.1).1.1, .int .i64 (ofF x.1).1.2.1, .int .i64 (ofF x.1).1.2.2.1, .bool (ofF x.1).1.2.2.2.1, .bool (ofF x.1).1.2.2.2.2.1, .int .i64 (ofF x.1).1.2.2.2.2.2], .cells 156 [.ptr 2 0 0 1, .ptr 2 0 0 2, .ptr 2 0 0 3]])
 (.ret (.agg (Ty.enc tIns x)) [.cells 97 [.osl 1 1 at_.length, .bool fine], .ovec 3 tI at_, .cells 46 (Ty.enc tIns x), .cells 46 (Ty.enc tIns x), .cells 88 [.int .i64 (ofF x.1).1.1, .int .i64 (ofF x.1).1.2.1, .int .i64 (ofF x.1).1.2.2.1, .bool (ofF x.1).1.2.2.2.1, .bool (ofF x.1).1.2.2.2.2.1, .int .i64 (ofF x.1).1.2.2.2.2.2], .cells 156 [.ptr 2 0 0 1, .ptr 2 0 0 2, .ptr 2 0 0 3]])
theorem cins_T_ok (at_ : List Int) (fine : Bool) (x : EIns) : aRun Tryd.prog oc22 Tryd.f48 cins_lv 3000 [.code (bodyOf Tryd.f48)] ([.c (.ptr 0 0 0 0), .agg (tIns.enc x)] ++ List.replicate (Func.ntmps Tryd.f48 - 2) .junk) [.cells 97 [.osl 1 1 at_.length, .bool fine], .ovec 3 tI at_] = cins_T at_ fine x := by kernel_rfl
abbrev bCl3 (x : EIns) (a0 : Int) (a1 : Int) (a2 : Int) : AB := .cells 46 [.int .i64 x.1, .int .i64 a0, .int .i64 a1, .int .i64 a2, .int .i64 x.2.2.2.2.1, .int .i64 x.2.2.2.2.2.1, .int .i64 x.2.2.2.2.2.2.1, .int .i64 x.2.2.2.2.2.2.2]
abbrev bCl4 (x : EIns) (a0 : Int) (a1 : Int) (a2 : Int) : List CV := [.int .i64 x.1, .int .i64 a0, .int .i64 a1, .int .i64 a2, .int .i64 x.2.2.2.2.1, .int .i64 x.2.2.2.2.2.1, .int .i64 x.2.2.2.2.2.2.1, .int .i64 x.2.2.2.2.2.2.2]
noncomputable def cins_i3_R (at_ : List Int) (fine : Bool) (x : EIns) (f : Bool) (a0 : Int) (a1 : Int) (a2 : Int) : Tree :=
 .ite (decide ((3 : Int) < (((Int.toNat (ofF x.1).1.1) : Nat) : Int)))
 (.need ((0 : Int) ≤ 3 ∧ (3 : Int) < (((Int.toNat (ofF x.1).1.1) : Nat) : Int)) <|
  .fail 10)
 (.ret (.agg (bCl4 x a0 a1 a2)) [.cells 97 [.osl 1 1 at_.length, .bool f], .ovec 3 tI at_, (bCl3 x a0 a1 a2), (bCl3 x a0 a1 a2), .cells 156 [.ptr 2 0 0 1, .ptr 2 0 0 2, .ptr 2 0 0 3]])
theorem cins_i3_R_ok (at_ : List Int) (fine : Bool) (x : EIns) (f : Bool) (a0 : Int) (a1 : Int) (a2 : Int) : aRound Tryd.prog oc22 Tryd.f48 cins_lv 3000 (lp (bodyOf Tryd.f48) 0) (.c (.ptr 0 0 0 0) :: J2 (.c (.ptr 2 0 0 0) :: .c (.ptr 3 0 0 0) :: J16 (J2 (.c (.pre 4 1 (Int.toNat (ofF x.1).1.1)) :: .c (.int .i64 (((Int.toNat (ofF x.1).1.1) : Nat) : Int)) :: .c (.int .i64 3) :: J8 (J4 ([])))))) [.cells 97 [.osl 1 1 at_.length, .bool f], .ovec 3 tI at_, (bCl3 x a0 a1 a2), bCl5, .cells 156 [.ptr 2 0 0 1, .ptr 2 0 0 2, .ptr 2 0 0 3]] = cins_i3_R at_ fine x f a0 a1 a2 := by kernel_rfl
noncomputable def cins_i2_R (at_ : List Int) (fine : Bool) (x : EIns) (f : Bool) (a0 : Int) (a1 : Int) (a2 : Int) : Tree :=
 .ite (decide ((2 : Int) < (((Int.toNat (ofF x.1).1.1) : Nat) : Int)))
 (.need ((0 : Int) ≤ 2 ∧ (2 : Int) < (((Int.toNat (ofF x.1).1.1) : Nat) : Int)) <|
  .callH 88 [.c (.ptr 0 0 0 0), .c (.int .i64 a2)] [.cells 97 [.osl 1 1 at_.length, .bool f], .ovec 3 tI at_, (bCl3 x a0 a1 a2), bCl5, .cells 156 [.ptr 2 0 0 1, .ptr 2 0 0 2, .ptr 2 0 0 3]] (.c (.int .i64 (cutOne at_ a2).1)) [.cells 97 [.osl 1 1 at_.length, .bool (f && (cutOne at_ a2).2)], .ovec 3 tI at_, (bCl3 x a0 a1 a2), bCl5, .cells 156 [.ptr 2 0 0 1, .ptr 2 0 0 2, .ptr 2 0 0 3]] [0, 1] <|
  .need (inR .i64 (2 + 1)) <|
  .stop (lp (bodyOf Tryd.f48) 0) (.c (.ptr 0 0 0 0) :: J2 (.c (.ptr 2 0 0 0) :: .c (.ptr 3 0 0 0) :: J16 (J2 (.c (.pre 4 1 (Int.toNat (ofF x.1).1.1)) :: .c (.int .i64 (((Int.toNat (ofF x.1).1.1) : Nat) : Int)) :: .c (.int .i64 (2 + 1)) :: J8 (J4 ([])))))) [.cells 97 [.osl 1 1 at_.length, .bool (f && (cutOne at_ a2).2)], .ovec 3 tI at_, .cells 46 [.int .i64 x.1, .int .i64 a0, .int .i64 a1, .int .i64 (cutOne at_ a2).1, .int .i64 x.2.2.2.2.1, .int .i64 x.2.2.2.2.2.1, .int .i64 x.2.2.2.2.2.2.1, .int .i64 x.2.2.2.2.2.2.2], bCl5, .cells 156 [.ptr 2 0 0 1, .ptr 2 0 0 2, .ptr 2 0 0 3]])
 (.ret (.agg (bCl4 x a0 a1 a2)) [.cells 97 [.osl 1 1 at_.length, .bool f], .ovec 3 tI at_, (bCl3 x a0 a1 a2), (bCl3 x a0 a1 a2), .cells 156 [.ptr 2 0 0 1, .ptr 2 0 0 2, .ptr 2 0 0 3]])
theorem cins_i2_R_ok (at_ : List Int) (fine : Bool) (x : EIns) (f : Bool) (a0 : Int) (a1 : Int) (a2 : Int) : aRound Tryd.prog oc22 Tryd.f48 cins_lv 3000 (lp (bodyOf Tryd.f48) 0) (.c (.ptr 0 0 0 0) :: J2 (.c (.ptr 2 0 0 0) :: .c (.ptr 3 0 0 0) :: J16 (J2 (.c (.pre 4 1 (Int.toNat (ofF x.1).1.1)) :: .c (.int .i64 (((Int.toNat (ofF x.1).1.1) : Nat) : Int)) :: .c (.int .i64 2) :: J8 (J4 ([])))))) [.cells 97 [.osl 1 1 at_.length, .bool f], .ovec 3 tI at_, (bCl3 x a0 a1 a2), bCl5, .cells 156 [.ptr 2 0 0 1, .ptr 2 0 0 2, .ptr 2 0 0 3]] = cins_i2_R at_ fine x f a0 a1 a2 := by kernel_rfl
noncomputable def cins_i1_R (at_ : List Int) (fine : Bool) (x : EIns) (f : Bool) (a0 : Int) (a1 : Int) (a2 : Int) : Tree :=
 .ite (decide ((1 : Int) < (((Int.toNat (ofF x.1).1.1) : Nat) : Int)))
 (.need ((0 : Int) ≤ 1 ∧ (1 : Int) < (((Int.toNat (ofF x.1).1.1) : Nat) : Int)) <|
  .callH 88 [.c (.ptr 0 0 0 0), .c (.int .i64 a1)] [.cells 97 [.osl 1 1 at_.length, .bool f], .ovec 3 tI at_, (bCl3 x a0 a1 a2), bCl5, .cells 156 [.ptr 2 0 0 1, .ptr 2 0 0 2, .ptr 2 0 0 3]] (.c (.int .i64 (cutOne at_ a1).1)) [.cells 97 [.osl 1 1 at_.length, .bool (f && (cutOne at_ a1).2)], .ovec 3 tI at_, (bCl3 x a0 a1 a2), bCl5, .cells 156 [.ptr 2 0 0 1, .ptr 2 0 0 2, .ptr 2 0 0 3]] [0, 1] <|
  .need (inR .i64 (1 + 1)) <|
  .stop (lp (bodyOf Tryd.f48) 0) (.c (.ptr 0 0 0 0) :: J2 (.c (.ptr 2 0 0 0) :: .c (.ptr 3 0 0 0) :: J16 (J2 (.c (.pre 4 1 (Int.toNat (ofF x.1).1.1)) :: .c (.int .i64 (((Int.toNat (ofF x.1).1.1) : Nat) : Int)) :: .c (.int .i64 (1 + 1)) :: J8 (J4 ([])))))) [.cells 97 [.osl 1 1 at_.length, .bool (f && (cutOne at_ a1).2)], .ovec 3 tI at_, .cells 46 [.int .i64 x.1, .int .i64 a0, .int .i64 (cutOne at_ a1).1, .int .i64 a2, .int .i64 x.2.2.2.2.1, .int .i64 x.2.2.2.2.2.1, .int .i64 x.2.2.2.2.2.2.1, .int .i64 x.2.2.2.2.2.2.2], bCl5, .cells 156 [.ptr 2 0 0 1, .ptr 2 0 0 2, .ptr 2 0 0 3]])
 (.ret (.agg (bCl4 x a0 a1 a2)) [.cells 97 [.osl 1 1 at_.length, .bool f], .ovec 3 tI at_, (bCl3 x a0 a1 a2), (bCl3 x a0 a1 a2), .cells 156 [.ptr 2 0 0 1, .ptr 2 0 0 2, .ptr 2 0 0 3]])
theorem cins_i1_R_ok (at_ : List Int) (fine : Bool) (x : EIns) (f : Bool) (a0 : Int) (a1 : Int) (a2 : Int) : aRound Tryd.prog oc22 Tryd.f48 cins_lv 3000 (lp (bodyOf Tryd.f48) 0) (.c (.ptr 0 0 0 0) :: J2 (.c (.ptr 2 0 0 0) :: .c (.ptr 3 0 0 0) :: J16 (J2 (.c (.pre 4 1 (Int.toNat (ofF x.1).1.1)) :: .c (.int .i64 (((Int.toNat (ofF x.1).1.1) : Nat) : Int)) :: .c (.int .i64 1) :: J8 (J4 ([])))))) [.cells 97 [.osl 1 1 at_.length, .bool f], .ovec 3 tI at_, (bCl3 x a0 a1 a2), bCl5, .cells 156 [.ptr 2 0 0 1, .ptr 2 0 0 2, .ptr 2 0 0 3]] = cins_i1_R at_ fine x f a0 a1 a2 := by kernel_rfl
noncomputable def cins_i0_R (at_ : List Int) (fine : Bool) (x : EIns) (f : Bool) (a0 : Int) (a1 : Int) (a2 : Int) : Tree :=
 .ite (decide ((0 : Int) < (((Int.toNat (ofF x.1).1.1) : Nat) : Int)))
 (.need ((0 : Int) ≤ 0 ∧ (0 : Int) < (((Int.toNat (ofF x.1).1.1) : Nat) : Int)) <|
  .callH 88 [.c (.ptr 0 0 0 0), .c (.int .i64 a0)] [.cells 97 [.osl 1 1 at_.length, .bool f], .ovec 3 tI at_, (bCl3 x a0 a1 a2), bCl5, .cells 156 [.ptr 2 0 0 1, .ptr 2 0 0 2, .ptr 2 0 0 3]] (.c (.int .i64 (cutOne at_ a0).1)) [.cells 97 [.osl 1 1 at_.length, .bool (f && (cutOne at_ a0).2)], .ovec 3 tI at_, (bCl3 x a0 a1 a2), bCl5, .cells 156 [.ptr 2 0 0 1, .ptr 2 0 0 2, .ptr 2 0 0 3]] [0, 1] <|
  .need (inR .i64 (0 + 1)) <|
  .stop (lp (bodyOf Tryd.f48) 0) (.c (.ptr 0 0 0 0) :: J2 (.c (.ptr 2 0 0 0) :: .c (.ptr 3 0 0 0) :: J16 (J2 (.c (.pre 4 1 (Int.toNat (ofF x.1).1.1)) :: .c (.int .i64 (((Int.toNat (ofF x.1).1.1) : Nat) : Int)) :: .c (.int .i64 (0 + 1)) :: J8 (J4 ([])))))) [.cells 97 [.osl 1 1 at_.length, .bool (f && (cutOne at_ a0).2)], .ovec 3 tI at_, .cells 46 [.int .i64 x.1, .int .i64 (cutOne at_ a0).1, .int .i64 a1, .int .i64 a2, .int .i64 x.2.2.2.2.1, .int .i64 x.2.2.2.2.2.1, .int .i64 x.2.2.2.2.2.2.1, .int .i64 x.2.2.2.2.2.2.2], bCl5, .cells 156 [.ptr 2 0 0 1, .ptr 2 0 0 2, .ptr 2 0 0 3]])
 (.ret (.agg (bCl4 x a0 a1 a2)) [.cells 97 [.osl 1 1 at_.length, .bool f], .ovec 3 tI at_, (bCl3 x a0 a1 a2), (bCl3 x a0 a1 a2), .cells 156 [.ptr 2 0 0 1, .ptr 2 0 0 2, .ptr 2 0 0 3]])
theorem cins_i0_R_ok (at_ : List Int) (fine : Bool) (x : EIns) (f : Bool) (a0 : Int) (a1 : Int) (a2 : Int) : aRound Tryd.prog oc22 Tryd.f48 cins_lv 3000 (lp (bodyOf Tryd.f48) 0) (.c (.ptr 0 0 0 0) :: J2 (.c (.ptr 2 0 0 0) :: .c (.ptr 3 0 0 0) :: J16 (J2 (.c (.pre 4 1 (Int.toNat (ofF x.1).1.1)) :: .c (.int .i64 (((Int.toNat (ofF x.1).1.1) : Nat) : Int)) :: .c (.int .i64 0) :: J8 (J4 ([])))))) [.cells 97 [.osl 1 1 at_.length, .bool f], .ovec 3 tI at_, (bCl3 x a0 a1 a2), bCl5, .cells 156 [.ptr 2 0 0 1, .ptr 2 0 0 2, .ptr 2 0 0 3]] = cins_i0_R at_ fine x f a0 a1 a2 := by kernel_rfl
theorem cins_i3 (at_ : List Int) (fine : Bool) (x : EIns) (f : Bool) (a0 : Int) (a1 : Int) (a2 : Int) (ha : 0 ≤ (ofF x.1).1.1 ∧ (ofF x.1).1.1 ≤ 3) : RunN 2 Tryd.prog 48 (finQ Tryd.prog 2 (.agg (Ty.enc tIns ((x.1, a0, a1, a2, x.2.2.2.2)))) [.cells 97 [.osl 1 1 at_.length, .bool f], .ovec 3 tI at_]) (lp (bodyOf Tryd.f48) 0) (.c (.ptr 0 0 0 0) :: J2 (.c (.ptr 2 0 0 0) :: .c (.ptr 3 0 0 0) :: J16 (J2 (.c (.pre 4 1 (Int.toNat (ofF x.1).1.1)) :: .c (.int .i64 (((Int.toNat (ofF x.1).1.1) : Nat) : Int)) :: .c (.int .i64 3) :: J8 (J4 ([])))))) [.cells 97 [.osl 1 1 at_.length, .bool f], .ovec 3 tI at_, (bCl3 x a0 a1 a2), bCl5, .cells 156 [.ptr 2 0 0 1, .ptr 2 0 0 2, .ptr 2 0 0 3]] :=
 Run.roundA oc22 cins_lv 3000 Tryd.func48 mixed (cins_i3_R at_ fine x f a0 a1 a2) (cins_i3_R_ok at_ fine x f a0 a1 a2) (by
  unfold cins_i3_R
  refine g_iteD (fun h0 => ?_) (fun h0 => ?_)
  ·refine g_need (by omega) ?_
   exact (show False from by first | omega | (constructor <;> omega) | (rw [i64_iff]; omega) | (rw [i64_iff]; constructor <;> omega) | rfl | (simp; done) | (simp; omega))
  ·refine g_fin ?_
   exact g_end [0, 1] (show ∀ k, k < 2 → ([0, 1] : List Nat)[k]? = some k by decide) (by decide) (⟨⟨rfl, (show (x.1 : Int) = (x.1, a0, a1, a2, x.2.2.2.2).1 from by rfl)⟩, ⟨rfl, (show (a0 : Int) = (x.1, a0, a1, a2, x.2.2.2.2).2.1 from by rfl)⟩, ⟨rfl, (show (a1 : Int) = (x.1, a0, a1, a2, x.2.2.2.2).2.2.1 from by rfl)⟩, ⟨rfl, (show (a2 : Int) = (x.1, a0, a1, a2, x.2.2.2.2).2.2.2.1 from by rfl)⟩, ⟨rfl, (show (x.2.2.2.2.1 : Int) = (x.1, a0, a1, a2, x.2.2.2.2).2.2.2.2.1 from by rfl)⟩, ⟨rfl, (show (x.2.2.2.2.2.1 : Int) = (x.1, a0, a1, a2, x.2.2.2.2).2.2.2.2.2.1 from by rfl)⟩, ⟨rfl, (show (x.2.2.2.2.2.2.1 : Int) = (x.1, a0, a1, a2, x.2.2.2.2).2.2.2.2.2.2.1 from by rfl)⟩, ⟨rfl, (show (x.2.2.2.2.2.2.2 : Int) = (x.1, a0, a1, a2, x.2.2.2.2).2.2.2.2.2.2.2 from by rfl)⟩, trivial⟩) ⟨leB.refl _, leB.refl _, trivial⟩
  )
theorem cins_i2 (at_ : List Int) (fine : Bool) (x : EIns) (f : Bool) (a0 : Int) (a1 : Int) (a2 : Int) (ha : 0 ≤ (ofF x.1).1.1 ∧ (ofF x.1).1.1 ≤ 3) : RunN 2 Tryd.prog 48 (finQ Tryd.prog 2 (.agg (Ty.enc tIns ((x.1, a0, a1, stepV at_ (ofF x.1).1.1 2 a2, x.2.2.2.2)))) [.cells 97 [.osl 1 1 at_.length, .bool (f && stepOk at_ (ofF x.1).1.1 2 a2)], .ovec 3 tI at_]) (lp (bodyOf Tryd.f48) 0) (.c (.ptr 0 0 0 0) :: J2 (.c (.ptr 2 0 0 0) :: .c (.ptr 3 0 0 0) :: J16 (J2 (.c (.pre 4 1 (Int.toNat (ofF x.1).1.1)) :: .c (.int .i64 (((Int.toNat (ofF x.1).1.1) : Nat) : Int)) :: .c (.int .i64 2) :: J8 (J4 ([])))))) [.cells 97 [.osl 1 1 at_.length, .bool f], .ovec 3 tI at_, (bCl3 x a0 a1 a2), bCl5, .cells 156 [.ptr 2 0 0 1, .ptr 2 0 0 2, .ptr 2 0 0 3]] :=
 Run.roundA oc22 cins_lv 3000 Tryd.func48 mixed (cins_i2_R at_ fine x f a0 a1 a2) (cins_i2_R_ok at_ fine x f a0 a1 a2) (by
  unfold cins_i2_R
  refine g_iteD (fun h0 => ?_) (fun h0 => ?_)
  ·refine g_need (by omega) ?_
   refine g_callH (AFunH.frameB [0, 1] (one_fun at_ f a2) rfl rfl rfl rfl rfl rfl rfl) ?_
   refine g_need (i64_iff.2 (by omega)) ?_
   refine g_stop (RunN.keep [0, 1, 2, 3, 4] (true :: F2 (true :: true :: F16 (F2 (true :: true :: true :: F8 (F4 ([])))))) (show ∀ k, k < 2 → ([0, 1, 2, 3, 4] : List Nat)[k]? = some k by decide) (by decide) rfl rfl ?_)
   have ht := cins_i3 at_ fine x (f && (cutOne at_ a2).2) a0 a1 (cutOne at_ a2).1 ha; have e1 : stepV at_ (ofF x.1).1.1 2 a2 = (cutOne at_ a2).1 := if_pos (by omega); have e2 : stepOk at_ (ofF x.1).1.1 2 a2 = (cutOne at_ a2).2 := if_pos (by omega); rw [e1, e2]; exact ht
  ·refine g_fin ?_
   exact g_end [0, 1] (show ∀ k, k < 2 → ([0, 1] : List Nat)[k]? = some k by decide) (by decide) (⟨⟨rfl, (show (x.1 : Int) = (x.1, a0, a1, stepV at_ (ofF x.1).1.1 2 a2, x.2.2.2.2).1 from by first | rfl | exact (if_neg (by omega)).symm | (simp only [stepOk, if_neg (show ¬ (2 : Int) < (ofF x.1).1.1 by omega), Bool.and_true]; done))⟩, ⟨rfl, (show (a0 : Int) = (x.1, a0, a1, stepV at_ (ofF x.1).1.1 2 a2, x.2.2.2.2).2.1 from by first | rfl | exact (if_neg (by omega)).symm | (simp only [stepOk, if_neg (show ¬ (2 : Int) < (ofF x.1).1.1 by omega), Bool.and_true]; done))⟩, ⟨rfl, (show (a1 : Int) = (x.1, a0, a1, stepV at_ (ofF x.1).1.1 2 a2, x.2.2.2.2).2.2.1 from by first | rfl | exact (if_neg (by omega)).symm | (simp only [stepOk, if_neg (show ¬ (2 : Int) < (ofF x.1).1.1 by omega), Bool.and_true]; done))⟩, ⟨rfl, (show (a2 : Int) = (x.1, a0, a1, stepV at_ (ofF x.1).1.1 2 a2, x.2.2.2.2).2.2.2.1 from by first | rfl | exact (if_neg (by omega)).symm | (simp only [stepOk, if_neg (show ¬ (2 : Int) < (ofF x.1).1.1 by omega), Bool.and_true]; done))⟩, ⟨rfl, (show (x.2.2.2.2.1 : Int) = (x.1, a0, a1, stepV at_ (ofF x.1).1.1 2 a2, x.2.2.2.2).2.2.2.2.1 from by first | rfl | exact (if_neg (by omega)).symm | (simp only [stepOk, if_neg (show ¬ (2 : Int) < (ofF x.1).1.1 by omega), Bool.and_true]; done))⟩, ⟨rfl, (show (x.2.2.2.2.2.1 : Int) = (x.1, a0, a1, stepV at_ (ofF x.1).1.1 2 a2, x.2.2.2.2).2.2.2.2.2.1 from by first | rfl | exact (if_neg (by omega)).symm | (simp only [stepOk, if_neg (show ¬ (2 : Int) < (ofF x.1).1.1 by omega), Bool.and_true]; done))⟩, ⟨rfl, (show (x.2.2.2.2.2.2.1 : Int) = (x.1, a0, a1, stepV at_ (ofF x.1).1.1 2 a2, x.2.2.2.2).2.2.2.2.2.2.1 from by first | rfl | exact (if_neg (by omega)).symm | (simp only [stepOk, if_neg (show ¬ (2 : Int) < (ofF x.1).1.1 by omega), Bool.and_true]; done))⟩, ⟨rfl, (show (x.2.2.2.2.2.2.2 : Int) = (x.1, a0, a1, stepV at_ (ofF x.1).1.1 2 a2, x.2.2.2.2).2.2.2.2.2.2.2 from by first | rfl | exact (if_neg (by omega)).symm | (simp only [stepOk, if_neg (show ¬ (2 : Int) < (ofF x.1).1.1 by omega), Bool.and_true]; done))⟩, trivial⟩) ⟨⟨rfl, leC.refl _, (show (f : Bool) = (f && stepOk at_ (ofF x.1).1.1 2 a2) from by first | rfl | exact (if_neg (by omega)).symm | (simp only [stepOk, if_neg (show ¬ (2 : Int) < (ofF x.1).1.1 by omega), Bool.and_true]; done)), trivial⟩, leB.refl _, trivial⟩
  )
theorem cins_i1 (at_ : List Int) (fine : Bool) (x : EIns) (f : Bool) (a0 : Int) (a1 : Int) (a2 : Int) (ha : 0 ≤ (ofF x.1).1.1 ∧ (ofF x.1).1.1 ≤ 3) : RunN 2 Tryd.prog 48 (finQ Tryd.prog 2 (.agg (Ty.enc tIns ((x.1, a0, stepV at_ (ofF x.1).1.1 1 a1, stepV at_ (ofF x.1).1.1 2 a2, x.2.2.2.2)))) [.cells 97 [.osl 1 1 at_.length, .bool (f && (stepOk at_ (ofF x.1).1.1 1 a1 && stepOk at_ (ofF x.1).1.1 2 a2))], .ovec 3 tI at_]) (lp (bodyOf Tryd.f48) 0) (.c (.ptr 0 0 0 0) :: J2 (.c (.ptr 2 0 0 0) :: .c (.ptr 3 0 0 0) :: J16 (J2 (.c (.pre 4 1 (Int.toNat (ofF x.1).1.1)) :: .c (.int .i64 (((Int.toNat (ofF x.1).1.1) : Nat) : Int)) :: .c (.int .i64 1) :: J8 (J4 ([])))))) [.cells 97 [.osl 1 1 at_.length, .bool f], .ovec 3 tI at_, (bCl3 x a0 a1 a2), bCl5, .cells 156 [.ptr 2 0 0 1, .ptr 2 0 0 2, .ptr 2 0 0 3]] :=
 Run.roundA oc22 cins_lv 3000 Tryd.func48 mixed (cins_i1_R at_ fine x f a0 a1 a2) (cins_i1_R_ok at_ fine x f a0 a1 a2) (by
  unfold cins_i1_R
  refine g_iteD (fun h0 => ?_) (fun h0 => ?_)
  ·refine g_need (by omega) ?_
   refine g_callH (AFunH.frameB [0, 1] (one_fun at_ f a1) rfl rfl rfl rfl rfl rfl rfl) ?_
   refine g_need (i64_iff.2 (by omega)) ?_
   refine g_stop (RunN.keep [0, 1, 2, 3, 4] (true :: F2 (true :: true :: F16 (F2 (true :: true :: true :: F8 (F4 ([])))))) (show ∀ k, k < 2 → ([0, 1, 2, 3, 4] : List Nat)[k]? = some k by decide) (by decide) rfl rfl ?_)
   have ht := cins_i2 at_ fine x (f && (cutOne at_ a1).2) a0 (cutOne at_ a1).1 a2 ha; have e1 : stepV at_ (ofF x.1).1.1 1 a1 = (cutOne at_ a1).1 := if_pos (by omega); have e2 : stepOk at_ (ofF x.1).1.1 1 a1 = (cutOne at_ a1).2 := if_pos (by omega); rw [e1, e2]; rw [← Bool.and_assoc]; exact ht
  ·refine g_fin ?_
   exact g_end [0, 1] (show ∀ k, k < 2 → ([0, 1] : List Nat)[k]? = some k by decide) (by decide) (⟨⟨rfl, (show (x.1 : Int) = (x.1, a0, stepV at_ (ofF x.1).1.1 1 a1, stepV at_ (ofF x.1).1.1 2 a2, x.2.2.2.2).1 from by first | rfl | exact (if_neg (by omega)).symm | (simp only [stepOk, if_neg (show ¬ (1 : Int) < (ofF x.1).1.1 by omega), if_neg (show ¬ (2 : Int) < (ofF x.1).1.1 by omega), Bool.and_true]; done))⟩, ⟨rfl, (show (a0 : Int) = (x.1, a0, stepV at_ (ofF x.1).1.1 1 a1, stepV at_ (ofF x.1).1.1 2 a2, x.2.2.2.2).2.1 from by first | rfl | exact (if_neg (by omega)).symm | (simp only [stepOk, if_neg (show ¬ (1 : Int) < (ofF x.1).1.1 by omega), if_neg (show ¬ (2 : Int) < (ofF x.1).1.1 by omega), Bool.and_true]; done))⟩, ⟨rfl, (show (a1 : Int) = (x.1, a0, stepV at_ (ofF x.1).1.1 1 a1, stepV at_ (ofF x.1).1.1 2 a2, x.2.2.2.2).2.2.1 from by first | rfl | exact (if_neg (by omega)).symm | (simp only [stepOk, if_neg (show ¬ (1 : Int) < (ofF x.1).1.1 by omega), if_neg (show ¬ (2 : Int) < (ofF x.1).1.1 by omega), Bool.and_true]; done))⟩, ⟨rfl, (show (a2 : Int) = (x.1, a0, stepV at_ (ofF x.1).1.1 1 a1, stepV at_ (ofF x.1).1.1 2 a2, x.2.2.2.2).2.2.2.1 from by first | rfl | exact (if_neg (by omega)).symm | (simp only [stepOk, if_neg (show ¬ (1 : Int) < (ofF x.1).1.1 by omega), if_neg (show ¬ (2 : Int) < (ofF x.1).1.1 by omega), Bool.and_true]; done))⟩, ⟨rfl, (show (x.2.2.2.2.1 : Int) = (x.1, a0, stepV at_ (ofF x.1).1.1 1 a1, stepV at_ (ofF x.1).1.1 2 a2, x.2.2.2.2).2.2.2.2.1 from by first | rfl | exact (if_neg (by omega)).symm | (simp only [stepOk, if_neg (show ¬ (1 : Int) < (ofF x.1).1.1 by omega), if_neg (show ¬ (2 : Int) < (ofF x.1).1.1 by omega), Bool.and_true]; done))⟩, ⟨rfl, (show (x.2.2.2.2.2.1 : Int) = (x.1, a0, stepV at_ (ofF x.1).1.1 1 a1, stepV at_ (ofF x.1).1.1 2 a2, x.2.2.2.2).2.2.2.2.2.1 from by first | rfl | exact (if_neg (by omega)).symm | (simp only [stepOk, if_neg (show ¬ (1 : Int) < (ofF x.1).1.1 by omega), if_neg (show ¬ (2 : Int) < (ofF x.1).1.1 by omega), Bool.and_true]; done))⟩, ⟨rfl, (show (x.2.2.2.2.2.2.1 : Int) = (x.1, a0, stepV at_ (ofF x.1).1.1 1 a1, stepV at_ (ofF x.1).1.1 2 a2, x.2.2.2.2).2.2.2.2.2.2.1 from by first | rfl | exact (if_neg (by omega)).symm | (simp only [stepOk, if_neg (show ¬ (1 : Int) < (ofF x.1).1.1 by omega), if_neg (show ¬ (2 : Int) < (ofF x.1).1.1 by omega), Bool.and_true]; done))⟩, ⟨rfl, (show (x.2.2.2.2.2.2.2 : Int) = (x.1, a0, stepV at_ (ofF x.1).1.1 1 a1, stepV at_ (ofF x.1).1.1 2 a2, x.2.2.2.2).2.2.2.2.2.2.2 from by first | rfl | exact (if_neg (by omega)).symm | (simp only [stepOk, if_neg (show ¬ (1 : Int) < (ofF x.1).1.1 by omega), if_neg (show ¬ (2 : Int) < (ofF x.1).1.1 by omega), Bool.and_true]; done))⟩, trivial⟩) ⟨⟨rfl, leC.refl _, (show (f : Bool) = (f && (stepOk at_ (ofF x.1).1.1 1 a1 && stepOk at_ (ofF x.1).1.1 2 a2)) from by first | rfl | exact (if_neg (by omega)).symm | (simp only [stepOk, if_neg (show ¬ (1 : Int) < (ofF x.1).1.1 by omega), if_neg (show ¬ (2 : Int) < (ofF x.1).1.1 by omega), Bool.and_true]; done)), trivial⟩, leB.refl _, trivial⟩
  )
theorem cins_i0 (at_ : List Int) (fine : Bool) (x : EIns) (f : Bool) (a0 : Int) (a1 : Int) (a2 : Int) (ha : 0 ≤ (ofF x.1).1.1 ∧ (ofF x.1).1.1 ≤ 3) : RunN 2 Tryd.prog 48 (finQ Tryd.prog 2 (.agg (Ty.enc tIns ((x.1, stepV at_ (ofF x.1).1.1 0 a0, stepV at_ (ofF x.1).1.1 1 a1, stepV at_ (ofF x.1).1.1 2 a2, x.2.2.2.2)))) [.cells 97 [.osl 1 1 at_.length, .bool (f && (stepOk at_ (ofF x.1).1.1 0 a0 && (stepOk at_ (ofF x.1).1.1 1 a1 && stepOk at_ (ofF x.1).1.1 2 a2)))], .ovec 3 tI at_]) (lp (bodyOf Tryd.f48) 0) (.c (.ptr 0 0 0 0) :: J2 (.c (.ptr 2 0 0 0) :: .c (.ptr 3 0 0 0) :: J16 (J2 (.c (.pre 4 1 (Int.toNat (ofF x.1).1.1)) :: .c (.int .i64 (((Int.toNat (ofF x.1).1.1) : Nat) : Int)) :: .c (.int .i64 0) :: J8 (J4 ([])))))) [.cells 97 [.osl 1 1 at_.length, .bool f], .ovec 3 tI at_, (bCl3 x a0 a1 a2), bCl5, .cells 156 [.ptr 2 0 0 1, .ptr 2 0 0 2, .ptr 2 0 0 3]] :=
 Run.roundA oc22 cins_lv 3000 Tryd.func48 mixed (cins_i0_R at_ fine x f a0 a1 a2) (cins_i0_R_ok at_ fine x f a0 a1 a2) (by
  unfold cins_i0_R
  refine g_iteD (fun h0 => ?_) (fun h0 => ?_)
  ·refine g_need (by omega) ?_
   refine g_callH (AFunH.frameB [0, 1] (one_fun at_ f a0) rfl rfl rfl rfl rfl rfl rfl) ?_
   refine g_need (i64_iff.2 (by omega)) ?_
   refine g_stop (RunN.keep [0, 1, 2, 3, 4] (true :: F2 (true :: true :: F16 (F2 (true :: true :: true :: F8 (F4 ([])))))) (show ∀ k, k < 2 → ([0, 1, 2, 3, 4] : List Nat)[k]? = some k by decide) (by decide) rfl rfl ?_)
   have ht := cins_i1 at_ fine x (f && (cutOne at_ a0).2) (cutOne at_ a0).1 a1 a2 ha; have e1 : stepV at_ (ofF x.1).1.1 0 a0 = (cutOne at_ a0).1 := if_pos (by omega); have e2 : stepOk at_ (ofF x.1).1.1 0 a0 = (cutOne at_ a0).2 := if_pos (by omega); rw [e1, e2]; rw [← Bool.and_assoc]; exact ht
  ·refine g_fin ?_
   exact g_end [0, 1] (show ∀ k, k < 2 → ([0, 1] : List Nat)[k]? = some k by decide) (by decide) (⟨⟨rfl, (show (x.1 : Int) = (x.1, stepV at_ (ofF x.1).1.1 0 a0, stepV at_ (ofF x.1).1.1 1 a1, stepV at_ (ofF x.1).1.1 2 a2, x.2.2.2.2).1 from by first | rfl | exact (if_neg (by omega)).symm | (simp only [stepOk, if_neg (show ¬ (0 : Int) < (ofF x.1).1.1 by omega), if_neg (show ¬ (1 : Int) < (ofF x.1).1.1 by omega), if_neg (show ¬ (2 : Int) < (ofF x.1).1.1 by omega), Bool.and_true]; done))⟩, ⟨rfl, (show (a0 : Int) = (x.1, stepV at_ (ofF x.1).1.1 0 a0, stepV at_ (ofF x.1).1.1 1 a1, stepV at_ (ofF x.1).1.1 2 a2, x.2.2.2.2).2.1 from by first | rfl | exact (if_neg (by omega)).symm | (simp only [stepOk, if_neg (show ¬ (0 : Int) < (ofF x.1).1.1 by omega), if_neg (show ¬ (1 : Int) < (ofF x.1).1.1 by omega), if_neg (show ¬ (2 : Int) < (ofF x.1).1.1 by omega), Bool.and_true]; done))⟩, ⟨rfl, (show (a1 : Int) = (x.1, stepV at_ (ofF x.1).1.1 0 a0, stepV at_ (ofF x.1).1.1 1 a1, stepV at_ (ofF x.1).1.1 2 a2, x.2.2.2.2).2.2.1 from by first | rfl | exact (if_neg (by omega)).symm | (simp only [stepOk, if_neg (show ¬ (0 : Int) < (ofF x.1).1.1 by omega), if_neg (show ¬ (1 : Int) < (ofF x.1).1.1 by omega), if_neg (show ¬ (2 : Int) < (ofF x.1).1.1 by omega), Bool.and_true]; done))⟩, ⟨rfl, (show (a2 : Int) = (x.1, stepV at_ (ofF x.1).1.1 0 a0, stepV at_ (ofF x.1).1.1 1 a1, stepV at_ (ofF x.1).1.1 2 a2, x.2.2.2.2).2.2.2.1 from by first | rfl | exact (if_neg (by omega)).symm | (simp only [stepOk, if_neg (show ¬ (0 : Int) < (ofF x.1).1.1 by omega), if_neg (show ¬ (1 : Int) < (ofF x.1).1.1 by omega), if_neg (show ¬ (2 : Int) < (ofF x.1).1.1 by omega), Bool.and_true]; done))⟩, ⟨rfl, (show (x.2.2.2.2.1 : Int) = (x.1, stepV at_ (ofF x.1).1.1 0 a0, stepV at_ (ofF x.1).1.1 1 a1, stepV at_ (ofF x.1).1.1 2 a2, x.2.2.2.2).2.2.2.2.1 from by first | rfl | exact (if_neg (by omega)).symm | (simp only [stepOk, if_neg (show ¬ (0 : Int) < (ofF x.1).1.1 by omega), if_neg (show ¬ (1 : Int) < (ofF x.1).1.1 by omega), if_neg (show ¬ (2 : Int) < (ofF x.1).1.1 by omega), Bool.and_true]; done))⟩, ⟨rfl, (show (x.2.2.2.2.2.1 : Int) = (x.1, stepV at_ (ofF x.1).1.1 0 a0, stepV at_ (ofF x.1).1.1 1 a1, stepV at_ (ofF x.1).1.1 2 a2, x.2.2.2.2).2.2.2.2.2.1 from by first | rfl | exact (if_neg (by omega)).symm | (simp only [stepOk, if_neg (show ¬ (0 : Int) < (ofF x.1).1.1 by omega), if_neg (show ¬ (1 : Int) < (ofF x.1).1.1 by omega), if_neg (show ¬ (2 : Int) < (ofF x.1).1.1 by omega), Bool.and_true]; done))⟩, ⟨rfl, (show (x.2.2.2.2.2.2.1 : Int) = (x.1, stepV at_ (ofF x.1).1.1 0 a0, stepV at_ (ofF x.1).1.1 1 a1, stepV at_ (ofF x.1).1.1 2 a2, x.2.2.2.2).2.2.2.2.2.2.1 from by first | rfl | exact (if_neg (by omega)).symm | (simp only [stepOk, if_neg (show ¬ (0 : Int) < (ofF x.1).1.1 by omega), if_neg (show ¬ (1 : Int) < (ofF x.1).1.1 by omega), if_neg (show ¬ (2 : Int) < (ofF x.1).1.1 by omega), Bool.and_true]; done))⟩, ⟨rfl, (show (x.2.2.2.2.2.2.2 : Int) = (x.1, stepV at_ (ofF x.1).1.1 0 a0, stepV at_ (ofF x.1).1.1 1 a1, stepV at_ (ofF x.1).1.1 2 a2, x.2.2.2.2).2.2.2.2.2.2.2 from by first | rfl | exact (if_neg (by omega)).symm | (simp only [stepOk, if_neg (show ¬ (0 : Int) < (ofF x.1).1.1 by omega), if_neg (show ¬ (1 : Int) < (ofF x.1).1.1 by omega), if_neg (show ¬ (2 : Int) < (ofF x.1).1.1 by omega), Bool.and_true]; done))⟩, trivial⟩) ⟨⟨rfl, leC.refl _, (show (f : Bool) = (f && (stepOk at_ (ofF x.1).1.1 0 a0 && (stepOk at_ (ofF x.1).1.1 1 a1 && stepOk at_ (ofF x.1).1.1 2 a2))) from by first | rfl | exact (if_neg (by omega)).symm | (simp only [stepOk, if_neg (show ¬ (0 : Int) < (ofF x.1).1.1 by omega), if_neg (show ¬ (1 : Int) < (ofF x.1).1.1 by omega), if_neg (show ¬ (2 : Int) < (ofF x.1).1.1 by omega), Bool.and_true]; done)), trivial⟩, leB.refl _, trivial⟩
  )
theorem cins_fun (at_ : List Int) (fine : Bool) (x : EIns) : AFunH Tryd.prog 48 [.c (.ptr 0 0 0 0), .agg (tIns.enc x)] [.cells 97 [.osl 1 1 at_.length, .bool fine], .ovec 3 tI at_] (.agg (Ty.enc tIns (cutIns at_ x))) [.cells 97 [.osl 1 1 at_.length, .bool (fine && cutInsOk at_ x)], .ovec 3 tI at_] (List.range 2) :=
 AFunH.ofL oc22 cins_lv 3000 Tryd.func48 mixed rfl (by decide) (Nat.le_of_ble_eq_true rfl) rfl rfl (Nat.le_of_ble_eq_true rfl) _ (cins_T_ok at_ fine x) fun hF => by
  have ha := ofF_asks x.1
  unfold cins_T
  refine g_call (of__fun x.1) (fun h => nomatch h) ?_
  refine g_ite (fun h0 => ?_) (fun h0 => ?_)
  ·refine g_need (by first | omega | (constructor <;> omega) | (rw [i64_iff]; omega) | (rw [i64_iff]; constructor <;> omega) | rfl | (simp; done) | (simp; omega)) ?_
   refine g_stop (RunN.keep [0, 1, 2, 3, 5] (true :: F2 (true :: true :: F16 (F2 (true :: true :: true :: F8 (F4 ([])))))) (show ∀ k, k < 2 → ([0, 1, 2, 3, 5] : List Nat)[k]? = some k by decide) (by decide) rfl rfl ?_)
   have ht := cins_i0 at_ fine x fine x.2.1 x.2.2.1 x.2.2.2.1 ha; have e : cutAsks x.1 = (ofF x.1).1.1 := if_pos h0; simp only [cutIns, cutInsOk, e]; exact ht
  ·refine g_fin ?_
   exact g_end [0, 1] (show ∀ k, k < 2 → ([0, 1] : List Nat)[k]? = some k by decide) (by decide) (⟨⟨rfl, (show (x.1 : Int) = (cutIns at_ x).1 from by simp only [cutIns, cutInsOk, stepV, stepOk, cutAsks, h0, if_false, Bool.false_eq_true, Int.lt_irrefl, Bool.and_true] <;> first | done | rfl | simp)⟩, ⟨rfl, (show (x.2.1 : Int) = (cutIns at_ x).2.1 from by simp only [cutIns, cutInsOk, stepV, stepOk, cutAsks, h0, if_false, Bool.false_eq_true, Int.lt_irrefl, Bool.and_true] <;> first | done | rfl | simp)⟩, ⟨rfl, (show (x.2.2.1 : Int) = (cutIns at_ x).2.2.1 from by simp only [cutIns, cutInsOk, stepV, stepOk, cutAsks, h0, if_false, Bool.false_eq_true, Int.lt_irrefl, Bool.and_true] <;> first | done | rfl | simp)⟩, ⟨rfl, (show (x.2.2.2.1 : Int) = (cutIns at_ x).2.2.2.1 from by simp only [cutIns, cutInsOk, stepV, stepOk, cutAsks, h0, if_false, Bool.false_eq_true, Int.lt_irrefl, Bool.and_true] <;> first | done | rfl | simp)⟩, ⟨rfl, (show (x.2.2.2.2.1 : Int) = (cutIns at_ x).2.2.2.2.1 from by simp only [cutIns, cutInsOk, stepV, stepOk, cutAsks, h0, if_false, Bool.false_eq_true, Int.lt_irrefl, Bool.and_true] <;> first | done | rfl | simp)⟩, ⟨rfl, (show (x.2.2.2.2.2.1 : Int) = (cutIns at_ x).2.2.2.2.2.1 from by simp only [cutIns, cutInsOk, stepV, stepOk, cutAsks, h0, if_false, Bool.false_eq_true, Int.lt_irrefl, Bool.and_true] <;> first | done | rfl | simp)⟩, ⟨rfl, (show (x.2.2.2.2.2.2.1 : Int) = (cutIns at_ x).2.2.2.2.2.2.1 from by simp only [cutIns, cutInsOk, stepV, stepOk, cutAsks, h0, if_false, Bool.false_eq_true, Int.lt_irrefl, Bool.and_true] <;> first | done | rfl | simp)⟩, ⟨rfl, (show (x.2.2.2.2.2.2.2 : Int) = (cutIns at_ x).2.2.2.2.2.2.2 from by simp only [cutIns, cutInsOk, stepV, stepOk, cutAsks, h0, if_false, Bool.false_eq_true, Int.lt_irrefl, Bool.and_true] <;> first | done | rfl | simp)⟩, trivial⟩) ⟨⟨rfl, leC.refl _, (show (fine : Bool) = (fine && cutInsOk at_ x) from by simp only [cutIns, cutInsOk, stepV, stepOk, cutAsks, h0, if_false, Bool.false_eq_true, Int.lt_irrefl, Bool.and_true] <;> first | done | rfl | simp), trivial⟩, leB.refl _, trivial⟩

end Go.Proofs.YtefkifdhjabdiaaDoor
namespace Go.Proofs.YtefkifdhjabdiaaDoor
set_option linter.unusedVariables false
set_option linter.unusedSimpArgs false
set_option maxRecDepth 100000
def cutLoop (loop : Int) : Nat → List EIns → List Int → List Int → Bool → Int → List EIns → Option (List Int × Bool × Int × List EIns)
 | i, x :: xs, n :: ns, at_, f, lo, ins =>
  if n = (i : Int) then cutLoop loop (i + 1) xs ns (at_ ++ [(ins.length : Int)]) (f && cutInsOk (at_ ++ [(ins.length : Int)]) x) (if (i : Int) = loop then (ins.length : Int) else lo) (ins ++ [cutIns (at_ ++ [(ins.length : Int)]) x])
  else if n = -1 then cutLoop loop (i + 1) xs ns (at_ ++ [-1]) f (if (i : Int) = loop then (ins.length : Int) else lo) ins
  else if 0 ≤ n then (if n < (i : Int) then cutLoop loop (i + 1) xs ns (at_ ++ [at_.getD n.toNat tI.dflt]) f (if (i : Int) = loop then (ins.length : Int) else lo) ins else none) else none
 | _, _, _, at_, f, lo, ins => some (at_, f, lo, ins)
def noT : ETrace := (0, 0, 0, [], [], (0, 0, [], []), (0, 0, [], []))
def endF (t : ETrace) (at_ : List Int) (f : Bool) (lo : Int) (ins : List EIns) (xs : List EExit) (k : Nat) : ETrace × Int := if (f && ((t.2.2.2.2.1.drop k).all (cutExitOk at_) && (cutExitOk at_ t.2.2.2.2.2.1 && cutExitOk at_ t.2.2.2.2.2.2))) = true then ((t.1, t.2.1, lo, ins, xs ++ (t.2.2.2.2.1.drop k).map (cutExit at_), cutExit at_ t.2.2.2.2.2.1, cutExit at_ t.2.2.2.2.2.2), 0) else (noT, 3)
section
variable {t : ETrace} {at_ : List Int} {f : Bool} {lo : Int} {ins : List EIns} {xs : List EExit} {k : Nat}
theorem endF_t (hk : t.2.2.2.2.1.length ≤ k) (h : ((f && cutExitOk at_ t.2.2.2.2.2.1) && cutExitOk at_ t.2.2.2.2.2.2) = true) : endF t at_ f lo ins xs k = ((t.1, t.2.1, lo, ins, xs, cutExit at_ t.2.2.2.2.2.1, cutExit at_ t.2.2.2.2.2.2), 0) := by
 unfold endF
 rw [List.drop_eq_nil_of_le hk, List.all_nil, Bool.true_and, ← Bool.and_assoc, if_pos h, List.map_nil, List.append_nil]
theorem endF_f (hk : t.2.2.2.2.1.length ≤ k) (h : ((f && cutExitOk at_ t.2.2.2.2.2.1) && cutExitOk at_ t.2.2.2.2.2.2) = false) : endF t at_ f lo ins xs k = (noT, 3) := by
 unfold endF
 rw [List.drop_eq_nil_of_le hk, List.all_nil, Bool.true_and, ← Bool.and_assoc, if_neg (by rw [h]; decide)]
theorem endF_step (hk : k < t.2.2.2.2.1.length) : endF t at_ f lo ins xs k = endF t at_ (f && cutExitOk at_ (t.2.2.2.2.1.getD k tExit.dflt)) lo ins (xs ++ [cutExit at_ (t.2.2.2.2.1.getD k tExit.dflt)]) (k + 1) := by
 unfold endF
 rw [dropCons (α := EExit) (Ty.dflt tExit) hk, List.all_cons, List.map_cons, List.append_cons]
 simp only [Bool.and_assoc]
end
def cutEnd (t : ETrace) (at_ : List Int) (f : Bool) (lo : Int) (ins : List EIns) : ETrace × Int := endF t at_ f lo ins [] 0
def loopAt (t : ETrace) (lo : Int) (n : Nat) : Int := if t.2.2.1 ≤ 0 then 0 else if (t.2.2.2.1.length : Int) ≤ t.2.2.1 then (n : Int) else lo
def cutThen (t : ETrace) : Option (List Int × Bool × Int × List EIns) → ETrace × Int
 | none => (noT, 3)
 | some r => cutEnd t r.1 r.2.1 (loopAt t r.2.2.1 r.2.2.2.length) r.2.2.2
def cutF (t : ETrace) (to : List Int) : ETrace × Int := if to.length = t.2.2.2.1.length then cutThen t (cutLoop t.2.2.1 0 t.2.2.2.1 to [] true 0 []) else (noT, 3)
def traceSm (t : ETrace) : Prop := t.2.2.2.1.length ≤ 1000000 ∧ (t.2.2.2.2.1.length ≤ 1000000 ∧ ∀ x ∈ t.2.2.2.2.1, exitSm x) ∧ exitSm t.2.2.2.2.2.1 ∧ exitSm t.2.2.2.2.2.2
noncomputable def oc23 : Orc where
 pure := fun f args => match f, args with
  | _, _ => none
 heap := fun f args H => match f, args with
  | 48, [.one (.c (.ptr b0 0 0 0)), a1] => match cellsAs 97 H[b0]? with
   | some [.osl b1 1 _, c0_1] => (match dA tIns a1, dC .bool c0_1, ovecAs 3 tI H[b1]? with
    | some x1, some y0_1, some y1 => hres [b0, b1] H (.agg (Ty.enc tIns (cutIns y1 x1))) [.cells 97 [.osl 1 1 y1.length, .bool (y0_1 && cutInsOk y1 x1)], .ovec 3 tI y1]
    | _, _, _ => none)
   | _ => none
  | 49, [.one (.c (.ptr b0 0 0 0)), a1] => match cellsAs 97 H[b0]? with
   | some [.osl b1 1 _, c0_1] => (match dA tExit a1, dC .bool c0_1, ovecAs 3 tI H[b1]? with
    | some x1, some y0_1, some y1 => hres [b0, b1] H (.agg (Ty.enc tExit (cutExit y1 x1))) [.cells 97 [.osl 1 1 y1.length, .bool (y0_1 && cutExitOk y1 x1)], .ovec 3 tI y1]
    | _, _, _ => none)
   | _ => none
  | _, _ => none
def cut_lv : LV := ⟨(false :: true :: true :: false :: true :: false :: true :: true :: F16 (F4 (true :: true :: true :: F32 (F32 (F16 (F8 (F4 (false :: true :: true :: true :: F16 (F8 (F4 (false :: []))))))))))), [24]⟩
abbrev bCm8 : AB := .cells 29 [.int .i64 0, .int .i64 0, .int .i64 0, .nilsl, .nilsl, .int .i64 0, .int .i64 0, .nilsl, .nilsl, .int .i64 0, .int .i64 0, .nilsl, .nilsl]
abbrev bCm9 : List CV := [.int .i64 0, .int .i64 0, .int .i64 0, .nilsl, .nilsl, .int .i64 0, .int .i64 0, .nilsl, .nilsl, .int .i64 0, .int .i64 0, .nilsl, .nilsl]
noncomputable def cut_T (t : ETrace) (to : List Int) : Tree :=
 .ite ((!(decide ((to.length : Int) = (t.2.2.2.1.length : Int)))))
 (.ret (.tup [.agg bCm9, .c (.int .i64 3)]) [.cells 29 (Ty.enc tTrace t), bCm8])
 (.stop (lp (bodyOf Tryd.f22) 0) (.junk :: .c (.ro tI to) :: .c (.ptr 0 0 0 0) :: .junk :: .c (.ptr 1 0 0 0) :: .junk :: .c (.ptr 2 0 0 0) :: .c (.ptr 3 0 0 0) :: J16 (J4 (.c (.ro tIns t.2.2.2.1) :: .c (.int .i64 (t.2.2.2.1.length : Int)) :: .c (.int .i64 0) :: J32 (J32 (J32 (J16 (J8 (J4 (.junk :: []))))))))) [.cells 29 (Ty.enc tTrace t), bCm8, .cells 97 [.nilsl, .lit true], .cells 29 [.int .i64 t.1, .int .i64 t.2.1, .int .i64 0, .nilsl, .nilsl, .int .i64 0, .int .i64 0, .nilsl, .nilsl, .int .i64 0, .int .i64 0, .nilsl, .nilsl]])
theorem cut_T_ok (t : ETrace) (to : List Int) : aRun Tryd.prog oc23 Tryd.f22 cut_lv 3000 [.code (bodyOf Tryd.f22)] ([.agg (tTrace.enc t), .c (.ro tI to)] ++ List.replicate (Func.ntmps Tryd.f22 - 2) .junk) [] = cut_T t to := by kernel_rfl
abbrev bCm1 (t : ETrace) (i : Nat) : AB := .cells 46 [.int .i64 (t.2.2.2.1.getD i tIns.dflt).1, .int .i64 (t.2.2.2.1.getD i tIns.dflt).2.1, .int .i64 (t.2.2.2.1.getD i tIns.dflt).2.2.1, .int .i64 (t.2.2.2.1.getD i tIns.dflt).2.2.2.1, .int .i64 (t.2.2.2.1.getD i tIns.dflt).2.2.2.2.1, .int .i64 (t.2.2.2.1.getD i tIns.dflt).2.2.2.2.2.1, .int .i64 (t.2.2.2.1.getD i tIns.dflt).2.2.2.2.2.2.1, .int .i64 (t.2.2.2.1.getD i tIns.dflt).2.2.2.2.2.2.2]
abbrev bCm3 (t : ETrace) (ins : List EIns) : AB := .cells 29 [.int .i64 t.1, .int .i64 t.2.1, .int .i64 ((ins.length : Nat) : Int), .osl 5 8 ins.length, .nilsl, .int .i64 0, .int .i64 0, .nilsl, .nilsl, .int .i64 0, .int .i64 0, .nilsl, .nilsl]
abbrev bCm5 (t : ETrace) (lo : Int) (ins : List EIns) : AB := .cells 29 [.int .i64 t.1, .int .i64 t.2.1, .int .i64 lo, .osl 5 8 ins.length, .nilsl, .int .i64 0, .int .i64 0, .nilsl, .nilsl, .int .i64 0, .int .i64 0, .nilsl, .nilsl]
abbrev bCm6 (t : ETrace) (i : Nat) : List AV := (J4 (.c (.ro tIns t.2.2.2.1) :: .c (.int .i64 (t.2.2.2.1.length : Int)) :: .c (.int .i64 (((i : Nat) : Int) + 1)) :: J32 (J32 (J32 (J16 (J8 (J4 (.junk :: []))))))))
abbrev bCm7 (t : ETrace) (i : Nat) : List AV := (J4 (.c (.ro tIns t.2.2.2.1) :: .c (.int .i64 (t.2.2.2.1.length : Int)) :: .c (.int .i64 ((i : Nat) : Int)) :: J32 (J32 (J32 (J16 (J8 (J4 (.junk :: []))))))))
noncomputable def cut_l0_R (t : ETrace) (to : List Int) (i : Nat) (f : Bool) (lo : Int) (at_ : List Int) (ins : List EIns) : Tree :=
 .ite (decide (((i : Nat) : Int) < (t.2.2.2.1.length : Int)))
 (.need ((0 : Int) ≤ ((i : Nat) : Int) ∧ (((i : Nat) : Int) : Int) < (t.2.2.2.1.length : Int)) <|
  .need (i < t.2.2.2.1.length) <|
  .ite (decide (((i : Nat) : Int) = t.2.2.1))
  (.need ((0 : Int) ≤ ((i : Nat) : Int) ∧ (((i : Nat) : Int) : Int) < (to.length : Int)) <|
  .need (i < to.length) <|
  .ite (decide ((to.getD i tI.dflt) = ((i : Nat) : Int)))
  (.need (at_.length = at_.length) <|
   .need (0 = 0 ∧ 1 = ([((ins.length : Nat) : Int)]).length) <|
   .need ((at_.length + ([((ins.length : Nat) : Int)]).length) * 8 ≤ 140737488355328) <|
   .callH 48 [.c (.ptr 2 0 0 0), .agg [.int .i64 (t.2.2.2.1.getD i tIns.dflt).1, .int .i64 (t.2.2.2.1.getD i tIns.dflt).2.1, .int .i64 (t.2.2.2.1.getD i tIns.dflt).2.2.1, .int .i64 (t.2.2.2.1.getD i tIns.dflt).2.2.2.1, .int .i64 (t.2.2.2.1.getD i tIns.dflt).2.2.2.2.1, .int .i64 (t.2.2.2.1.getD i tIns.dflt).2.2.2.2.2.1, .int .i64 (t.2.2.2.1.getD i tIns.dflt).2.2.2.2.2.2.1, .int .i64 (t.2.2.2.1.getD i tIns.dflt).2.2.2.2.2.2.2]] [.cells 29 (Ty.enc tTrace t), bCm8, .cells 97 [.osl 8 1 (at_ ++ [((ins.length : Nat) : Int)]).length, .bool f], (bCm3 t ins), .dead, .ovec 46 tIns ins, (bCm1 t i), .vec 3 tI ([((ins.length : Nat) : Int)]), .ovec 3 tI (at_ ++ [((ins.length : Nat) : Int)])] (.agg [.int .i64 (cutIns (at_ ++ [((ins.length : Nat) : Int)]) (t.2.2.2.1.getD i tIns.dflt)).1, .int .i64 (cutIns (at_ ++ [((ins.length : Nat) : Int)]) (t.2.2.2.1.getD i tIns.dflt)).2.1, .int .i64 (cutIns (at_ ++ [((ins.length : Nat) : Int)]) (t.2.2.2.1.getD i tIns.dflt)).2.2.1, .int .i64 (cutIns (at_ ++ [((ins.length : Nat) : Int)]) (t.2.2.2.1.getD i tIns.dflt)).2.2.2.1, .int .i64 (cutIns (at_ ++ [((ins.length : Nat) : Int)]) (t.2.2.2.1.getD i tIns.dflt)).2.2.2.2.1, .int .i64 (cutIns (at_ ++ [((ins.length : Nat) : Int)]) (t.2.2.2.1.getD i tIns.dflt)).2.2.2.2.2.1, .int .i64 (cutIns (at_ ++ [((ins.length : Nat) : Int)]) (t.2.2.2.1.getD i tIns.dflt)).2.2.2.2.2.2.1, .int .i64 (cutIns (at_ ++ [((ins.length : Nat) : Int)]) (t.2.2.2.1.getD i tIns.dflt)).2.2.2.2.2.2.2]) [.cells 29 (Ty.enc tTrace t), bCm8, .cells 97 [.osl 8 1 (at_ ++ [((ins.length : Nat) : Int)]).length, .bool (f && cutInsOk (at_ ++ [((ins.length : Nat) : Int)]) (t.2.2.2.1.getD i tIns.dflt))], (bCm3 t ins), .dead, .ovec 46 tIns ins, (bCm1 t i), .vec 3 tI ([((ins.length : Nat) : Int)]), .ovec 3 tI (at_ ++ [((ins.length : Nat) : Int)])] [2, 8] <|
   .need (ins.length = ins.length) <|
   .need (0 = 0 ∧ 1 = ([(cutIns (at_ ++ [((ins.length : Nat) : Int)]) (t.2.2.2.1.getD i tIns.dflt))]).length) <|
   .need ((ins.length + ([(cutIns (at_ ++ [((ins.length : Nat) : Int)]) (t.2.2.2.1.getD i tIns.dflt))]).length) * 64 ≤ 140737488355328) <|
   .need (inR .i64 (((i : Nat) : Int) + 1)) <|
   .stop (lp (bodyOf Tryd.f22) 0) (.junk :: .c (.ro tI to) :: .c (.ptr 0 0 0 0) :: .junk :: .c (.ptr 1 0 0 0) :: .junk :: .c (.ptr 2 0 0 0) :: .c (.ptr 3 0 0 0) :: J16 (bCm6 t i)) [.cells 29 (Ty.enc tTrace t), bCm8, .cells 97 [.osl 8 1 (at_ ++ [((ins.length : Nat) : Int)]).length, .bool (f && cutInsOk (at_ ++ [((ins.length : Nat) : Int)]) (t.2.2.2.1.getD i tIns.dflt))], .cells 29 [.int .i64 t.1, .int .i64 t.2.1, .int .i64 ((ins.length : Nat) : Int), .osl 10 8 (ins ++ [(cutIns (at_ ++ [((ins.length : Nat) : Int)]) (t.2.2.2.1.getD i tIns.dflt))]).length, .nilsl, .int .i64 0, .int .i64 0, .nilsl, .nilsl, .int .i64 0, .int .i64 0, .nilsl, .nilsl], .dead, .dead, (bCm1 t i), .vec 3 tI ([((ins.length : Nat) : Int)]), .ovec 3 tI (at_ ++ [((ins.length : Nat) : Int)]), .vec 46 tIns ([(cutIns (at_ ++ [((ins.length : Nat) : Int)]) (t.2.2.2.1.getD i tIns.dflt))]), .ovec 46 tIns (ins ++ [(cutIns (at_ ++ [((ins.length : Nat) : Int)]) (t.2.2.2.1.getD i tIns.dflt))])])
  (.ite (decide ((to.getD i tI.dflt) = (-1)))
   (.need (at_.length = at_.length) <|
   .need (0 = 0 ∧ 1 = ([(-1)]).length) <|
   .need ((at_.length + ([(-1)]).length) * 8 ≤ 140737488355328) <|
   .need (inR .i64 (((i : Nat) : Int) + 1)) <|
   .stop (lp (bodyOf Tryd.f22) 0) (.junk :: .c (.ro tI to) :: .c (.ptr 0 0 0 0) :: .junk :: .c (.ptr 1 0 0 0) :: .junk :: .c (.ptr 2 0 0 0) :: .c (.ptr 3 0 0 0) :: J16 (bCm6 t i)) [.cells 29 (Ty.enc tTrace t), bCm8, .cells 97 [.osl 8 1 (at_ ++ [(-1)]).length, .bool f], (bCm3 t ins), .dead, .ovec 46 tIns ins, (bCm1 t i), .vec 3 tI ([(-1)]), .ovec 3 tI (at_ ++ [(-1)])])
   (.ite (decide ((0 : Int) ≤ (to.getD i tI.dflt)))
   (.ite (decide ((to.getD i tI.dflt) < ((i : Nat) : Int)))
    (.need ((0 : Int) ≤ (to.getD i tI.dflt) ∧ ((to.getD i tI.dflt) : Int) < ((at_.length : Nat) : Int)) <|
    .need ((Int.toNat (to.getD i tI.dflt)) < at_.length) <|
    .need (at_.length = at_.length) <|
    .need (0 = 0 ∧ 1 = ([(at_.getD (Int.toNat (to.getD i tI.dflt)) tI.dflt)]).length) <|
    .need ((at_.length + ([(at_.getD (Int.toNat (to.getD i tI.dflt)) tI.dflt)]).length) * 8 ≤ 140737488355328) <|
    .need (inR .i64 (((i : Nat) : Int) + 1)) <|
    .stop (lp (bodyOf Tryd.f22) 0) (.junk :: .c (.ro tI to) :: .c (.ptr 0 0 0 0) :: .junk :: .c (.ptr 1 0 0 0) :: .junk :: .c (.ptr 2 0 0 0) :: .c (.ptr 3 0 0 0) :: J16 (bCm6 t i)) [.cells 29 (Ty.enc tTrace t), bCm8, .cells 97 [.osl 8 1 (at_ ++ [(at_.getD (Int.toNat (to.getD i tI.dflt)) tI.dflt)]).length, .bool f], (bCm3 t ins), .dead, .ovec 46 tIns ins, (bCm1 t i), .vec 3 tI ([(at_.getD (Int.toNat (to.getD i tI.dflt)) tI.dflt)]), .ovec 3 tI (at_ ++ [(at_.getD (Int.toNat (to.getD i tI.dflt)) tI.dflt)])])
    (.ret (.tup [.agg bCm9, .c (.int .i64 3)]) [.cells 29 (Ty.enc tTrace t), bCm8, .cells 97 [.osl 4 1 at_.length, .bool f], (bCm3 t ins), .ovec 3 tI at_, .ovec 46 tIns ins, (bCm1 t i)]))
   (.ret (.tup [.agg bCm9, .c (.int .i64 3)]) [.cells 29 (Ty.enc tTrace t), bCm8, .cells 97 [.osl 4 1 at_.length, .bool f], (bCm3 t ins), .ovec 3 tI at_, .ovec 46 tIns ins, (bCm1 t i)]))))
  (.need ((0 : Int) ≤ ((i : Nat) : Int) ∧ (((i : Nat) : Int) : Int) < (to.length : Int)) <|
  .need (i < to.length) <|
  .ite (decide ((to.getD i tI.dflt) = ((i : Nat) : Int)))
  (.need (at_.length = at_.length) <|
   .need (0 = 0 ∧ 1 = ([((ins.length : Nat) : Int)]).length) <|
   .need ((at_.length + ([((ins.length : Nat) : Int)]).length) * 8 ≤ 140737488355328) <|
   .callH 48 [.c (.ptr 2 0 0 0), .agg [.int .i64 (t.2.2.2.1.getD i tIns.dflt).1, .int .i64 (t.2.2.2.1.getD i tIns.dflt).2.1, .int .i64 (t.2.2.2.1.getD i tIns.dflt).2.2.1, .int .i64 (t.2.2.2.1.getD i tIns.dflt).2.2.2.1, .int .i64 (t.2.2.2.1.getD i tIns.dflt).2.2.2.2.1, .int .i64 (t.2.2.2.1.getD i tIns.dflt).2.2.2.2.2.1, .int .i64 (t.2.2.2.1.getD i tIns.dflt).2.2.2.2.2.2.1, .int .i64 (t.2.2.2.1.getD i tIns.dflt).2.2.2.2.2.2.2]] [.cells 29 (Ty.enc tTrace t), bCm8, .cells 97 [.osl 8 1 (at_ ++ [((ins.length : Nat) : Int)]).length, .bool f], (bCm5 t lo ins), .dead, .ovec 46 tIns ins, (bCm1 t i), .vec 3 tI ([((ins.length : Nat) : Int)]), .ovec 3 tI (at_ ++ [((ins.length : Nat) : Int)])] (.agg [.int .i64 (cutIns (at_ ++ [((ins.length : Nat) : Int)]) (t.2.2.2.1.getD i tIns.dflt)).1, .int .i64 (cutIns (at_ ++ [((ins.length : Nat) : Int)]) (t.2.2.2.1.getD i tIns.dflt)).2.1, .int .i64 (cutIns (at_ ++ [((ins.length : Nat) : Int)]) (t.2.2.2.1.getD i tIns.dflt)).2.2.1, .int .i64 (cutIns (at_ ++ [((ins.length : Nat) : Int)]) (t.2.2.2.1.getD i tIns.dflt)).2.2.2.1, .int .i64 (cutIns (at_ ++ [((ins.length : Nat) : Int)]) (t.2.2.2.1.getD i tIns.dflt)).2.2.2.2.1, .int .i64 (cutIns (at_ ++ [((ins.length : Nat) : Int)]) (t.2.2.2.1.getD i tIns.dflt)).2.2.2.2.2.1, .int .i64 (cutIns (at_ ++ [((ins.length : Nat) : Int)]) (t.2.2.2.1.getD i tIns.dflt)).2.2.2.2.2.2.1, .int .i64 (cutIns (at_ ++ [((ins.length : Nat) : Int)]) (t.2.2.2.1.getD i tIns.dflt)).2.2.2.2.2.2.2]) [.cells 29 (Ty.enc tTrace t), bCm8, .cells 97 [.osl 8 1 (at_ ++ [((ins.length : Nat) : Int)]).length, .bool (f && cutInsOk (at_ ++ [((ins.length : Nat) : Int)]) (t.2.2.2.1.getD i tIns.dflt))], (bCm5 t lo ins), .dead, .ovec 46 tIns ins, (bCm1 t i), .vec 3 tI ([((ins.length : Nat) : Int)]), .ovec 3 tI (at_ ++ [((ins.length : Nat) : Int)])] [2, 8] <|
   .need (ins.length = ins.length) <|
   .need (0 = 0 ∧ 1 = ([(cutIns (at_ ++ [((ins.length : Nat) : Int)]) (t.2.2.2.1.getD i tIns.dflt))]).length) <|
   .need ((ins.length + ([(cutIns (at_ ++ [((ins.length : Nat) : Int)]) (t.2.2.2.1.getD i tIns.dflt))]).length) * 64 ≤ 140737488355328) <|
   .need (inR .i64 (((i : Nat) : Int) + 1)) <|
   .stop (lp (bodyOf Tryd.f22) 0) (.junk :: .c (.ro tI to) :: .c (.ptr 0 0 0 0) :: .junk :: .c (.ptr 1 0 0 0) :: .junk :: .c (.ptr 2 0 0 0) :: .c (.ptr 3 0 0 0) :: J16 (bCm6 t i)) [.cells 29 (Ty.enc tTrace t), bCm8, .cells 97 [.osl 8 1 (at_ ++ [((ins.length : Nat) : Int)]).length, .bool (f && cutInsOk (at_ ++ [((ins.length : Nat) : Int)]) (t.2.2.2.1.getD i tIns.dflt))], .cells 29 [.int .i64 t.1, .int .i64 t.2.1, .int .i64 lo, .osl 10 8 (ins ++ [(cutIns (at_ ++ [((ins.length : Nat) : Int)]) (t.2.2.2.1.getD i tIns.dflt))]).length, .nilsl, .int .i64 0, .int .i64 0, .nilsl, .nilsl, .int .i64 0, .int .i64 0, .nilsl, .nilsl], .dead, .dead, (bCm1 t i), .vec 3 tI ([((ins.length : Nat) : Int)]), .ovec 3 tI (at_ ++ [((ins.length : Nat) : Int)]), .vec 46 tIns ([(cutIns (at_ ++ [((ins.length : Nat) : Int)]) (t.2.2.2.1.getD i tIns.dflt))]), .ovec 46 tIns (ins ++ [(cutIns (at_ ++ [((ins.length : Nat) : Int)]) (t.2.2.2.1.getD i tIns.dflt))])])
  (.ite (decide ((to.getD i tI.dflt) = (-1)))
   (.need (at_.length = at_.length) <|
   .need (0 = 0 ∧ 1 = ([(-1)]).length) <|
   .need ((at_.length + ([(-1)]).length) * 8 ≤ 140737488355328) <|
   .need (inR .i64 (((i : Nat) : Int) + 1)) <|
   .stop (lp (bodyOf Tryd.f22) 0) (.junk :: .c (.ro tI to) :: .c (.ptr 0 0 0 0) :: .junk :: .c (.ptr 1 0 0 0) :: .junk :: .c (.ptr 2 0 0 0) :: .c (.ptr 3 0 0 0) :: J16 (bCm6 t i)) [.cells 29 (Ty.enc tTrace t), bCm8, .cells 97 [.osl 8 1 (at_ ++ [(-1)]).length, .bool f], (bCm5 t lo ins), .dead, .ovec 46 tIns ins, (bCm1 t i), .vec 3 tI ([(-1)]), .ovec 3 tI (at_ ++ [(-1)])])
   (.ite (decide ((0 : Int) ≤ (to.getD i tI.dflt)))
   (.ite (decide ((to.getD i tI.dflt) < ((i : Nat) : Int)))
    (.need ((0 : Int) ≤ (to.getD i tI.dflt) ∧ ((to.getD i tI.dflt) : Int) < ((at_.length : Nat) : Int)) <|
    .need ((Int.toNat (to.getD i tI.dflt)) < at_.length) <|
    .need (at_.length = at_.length) <|
    .need (0 = 0 ∧ 1 = ([(at_.getD (Int.toNat (to.getD i tI.dflt)) tI.dflt)]).length) <|
    .need ((at_.length + ([(at_.getD (Int.toNat (to.getD i tI.dflt)) tI.dflt)]).length) * 8 ≤ 140737488355328) <|
    .need (inR .i64 (((i : Nat) : Int) + 1)) <|
    .stop (lp (bodyOf Tryd.f22) 0) (.junk :: .c (.ro tI to) :: .c (.ptr 0 0 0 0) :: .junk :: .c (.ptr 1 0 0 0) :: .junk :: .c (.ptr 2 0 0 0) :: .c (.ptr 3 0 0 0) :: J16 (bCm6 t i)) [.cells 29 (Ty.enc tTrace t), bCm8, .cells 97 [.osl 8 1 (at_ ++ [(at_.getD (Int.toNat (to.getD i tI.dflt)) tI.dflt)]).length, .bool f], (bCm5 t lo ins), .dead, .ovec 46 tIns ins, (bCm1 t i), .vec 3 tI ([(at_.getD (Int.toNat (to.getD i tI.dflt)) tI.dflt)]), .ovec 3 tI (at_ ++ [(at_.getD (Int.toNat (to.getD i tI.dflt)) tI.dflt)])])
    (.ret (.tup [.agg bCm9, .c (.int .i64 3)]) [.cells 29 (Ty.enc tTrace t), bCm8, .cells 97 [.osl 4 1 at_.length, .bool f], (bCm5 t lo ins), .ovec 3 tI at_, .ovec 46 tIns ins, (bCm1 t i)]))
   (.ret (.tup [.agg bCm9, .c (.int .i64 3)]) [.cells 29 (Ty.enc tTrace t), bCm8, .cells 97 [.osl 4 1 at_.length, .bool f], (bCm5 t lo ins), .ovec 3 tI at_, .ovec 46 tIns ins, (bCm1 t i)])))))
 (.ite (decide ((t.2.2.2.1.length : Int) ≤ t.2.2.1))
  (.ite (decide (t.2.2.1 ≤ 0))
  (.stop (rg (bodyOf Tryd.f22) 24) (.junk :: .c (.ro tI to) :: .c (.ptr 0 0 0 0) :: .junk :: .c (.ptr 1 0 0 0) :: .junk :: .c (.ptr 2 0 0 0) :: .c (.ptr 3 0 0 0) :: J16 (bCm7 t i)) [.cells 29 (Ty.enc tTrace t), bCm8, .cells 97 [.osl 4 1 at_.length, .bool f], .cells 29 [.int .i64 t.1, .int .i64 t.2.1, .int .i64 0, .osl 5 8 ins.length, .nilsl, .int .i64 0, .int .i64 0, .nilsl, .nilsl, .int .i64 0, .int .i64 0, .nilsl, .nilsl], .ovec 3 tI at_, .ovec 46 tIns ins])
  (.stop (rg (bodyOf Tryd.f22) 24) (.junk :: .c (.ro tI to) :: .c (.ptr 0 0 0 0) :: .junk :: .c (.ptr 1 0 0 0) :: .junk :: .c (.ptr 2 0 0 0) :: .c (.ptr 3 0 0 0) :: J16 (bCm7 t i)) [.cells 29 (Ty.enc tTrace t), bCm8, .cells 97 [.osl 4 1 at_.length, .bool f], (bCm3 t ins), .ovec 3 tI at_, .ovec 46 tIns ins]))
  (.ite (decide (t.2.2.1 ≤ 0))
  (.stop (rg (bodyOf Tryd.f22) 24) (.junk :: .c (.ro tI to) :: .c (.ptr 0 0 0 0) :: .junk :: .c (.ptr 1 0 0 0) :: .junk :: .c (.ptr 2 0 0 0) :: .c (.ptr 3 0 0 0) :: J16 (bCm7 t i)) [.cells 29 (Ty.enc tTrace t), bCm8, .cells 97 [.osl 4 1 at_.length, .bool f], .cells 29 [.int .i64 t.1, .int .i64 t.2.1, .int .i64 0, .osl 5 8 ins.length, .nilsl, .int .i64 0, .int .i64 0, .nilsl, .nilsl, .int .i64 0, .int .i64 0, .nilsl, .nilsl], .ovec 3 tI at_, .ovec 46 tIns ins])
  (.stop (rg (bodyOf Tryd.f22) 24) (.junk :: .c (.ro tI to) :: .c (.ptr 0 0 0 0) :: .junk :: .c (.ptr 1 0 0 0) :: .junk :: .c (.ptr 2 0 0 0) :: .c (.ptr 3 0 0 0) :: J16 (bCm7 t i)) [.cells 29 (Ty.enc tTrace t), bCm8, .cells 97 [.osl 4 1 at_.length, .bool f], (bCm5 t lo ins), .ovec 3 tI at_, .ovec 46 tIns ins])))
theorem cut_l0_R_ok (t : ETrace) (to : List Int) (i : Nat) (f : Bool) (lo : Int) (at_ : List Int) (ins : List EIns) : aRound Tryd.prog oc23 Tryd.f22 cut_lv 3000 (lp (bodyOf Tryd.f22) 0) (.junk :: .c (.ro tI to) :: .c (.ptr 0 0 0 0) :: .junk :: .c (.ptr 1 0 0 0) :: .junk :: .c (.ptr 2 0 0 0) :: .c (.ptr 3 0 0 0) :: J16 (bCm7 t i)) [.cells 29 (Ty.enc tTrace t), bCm8, .cells 97 [.osl 4 1 at_.length, .bool f], (bCm5 t lo ins), .ovec 3 tI at_, .ovec 46 tIns ins] = cut_l0_R t to i f lo at_ ins := by kernel_rfl
noncomputable def cut_r24_R (t : ETrace) (to : List Int) (f : Bool) (lo : Int) (at_ : List Int) (ins : List EIns) : Tree :=
 .stop (lp (bodyOf Tryd.f22) 1) (J2 (.c (.ptr 0 0 0 0) :: .junk :: .c (.ptr 1 0 0 0) :: .junk :: .c (.ptr 2 0 0 0) :: .c (.ptr 3 0 0 0) :: J32 (J32 (J32 (J16 (J4 (.c (.ro tExit t.2.2.2.2.1) :: .c (.int .i64 (t.2.2.2.2.1.length : Int)) :: .c (.int .i64 0) :: J16 (J8 (J4 (.junk :: [])))))))))) [.cells 29 (Ty.enc tTrace t), bCm8, .cells 97 [.osl 4 1 at_.length, .bool f], (bCm5 t lo ins), .ovec 3 tI at_, .ovec 46 tIns ins]
theorem cut_r24_R_ok (t : ETrace) (to : List Int) (f : Bool) (lo : Int) (at_ : List Int) (ins : List EIns) : aRound Tryd.prog oc23 Tryd.f22 cut_lv 3000 (rg (bodyOf Tryd.f22) 24) (J2 (.c (.ptr 0 0 0 0) :: .junk :: .c (.ptr 1 0 0 0) :: .junk :: .c (.ptr 2 0 0 0) :: .c (.ptr 3 0 0 0) :: J32 (J32 (J32 (J32 (J16 (J4 ([])))))))) [.cells 29 (Ty.enc tTrace t), bCm8, .cells 97 [.osl 4 1 at_.length, .bool f], (bCm5 t lo ins), .ovec 3 tI at_, .ovec 46 tIns ins] = cut_r24_R t to f lo at_ ins := by kernel_rfl
abbrev bCm0 (t : ETrace) (lo : Int) (ins : List EIns) (xs : List EExit) (at_ : List Int) : AB := .cells 29 [.int .i64 t.1, .int .i64 t.2.1, .int .i64 lo, .osl 5 8 ins.length, .osl 6 4 xs.length, .int .i64 (cutExit at_ t.2.2.2.2.2.1).1, .int .i64 (cutExit at_ t.2.2.2.2.2.1).2.1, .ro tVal (cutExit at_ t.2.2.2.2.2.1).2.2.1, .ro tMake (cutExit at_ t.2.2.2.2.2.1).2.2.2, .int .i64 (cutExit at_ t.2.2.2.2.2.2).1, .int .i64 (cutExit at_ t.2.2.2.2.2.2).2.1, .ro tVal (cutExit at_ t.2.2.2.2.2.2).2.2.1, .ro tMake (cutExit at_ t.2.2.2.2.2.2).2.2.2]
abbrev bCm2 (t : ETrace) (k : Nat) : AB := .cells 27 [.int .i64 (t.2.2.2.2.1.getD k tExit.dflt).1, .int .i64 (t.2.2.2.2.1.getD k tExit.dflt).2.1, .ro tVal (t.2.2.2.2.1.getD k tExit.dflt).2.2.1, .ro tMake (t.2.2.2.2.1.getD k tExit.dflt).2.2.2]
abbrev bCm4 (t : ETrace) (lo : Int) (ins : List EIns) (xs : List EExit) : AB := .cells 29 [.int .i64 t.1, .int .i64 t.2.1, .int .i64 lo, .osl 5 8 ins.length, .osl 6 4 xs.length, .int .i64 0, .int .i64 0, .nilsl, .nilsl, .int .i64 0, .int .i64 0, .nilsl, .nilsl]
noncomputable def cut_l1_R (t : ETrace) (to : List Int) (k : Nat) (f : Bool) (lo : Int) (at_ : List Int) (ins : List EIns) (xs : List EExit) : Tree :=
 .ite (decide (((k : Nat) : Int) < (t.2.2.2.2.1.length : Int)))
 (.need ((0 : Int) ≤ ((k : Nat) : Int) ∧ (((k : Nat) : Int) : Int) < (t.2.2.2.2.1.length : Int)) <|
  .need (k < t.2.2.2.2.1.length) <|
  .callH 49 [.c (.ptr 2 0 0 0), .agg [.int .i64 (t.2.2.2.2.1.getD k tExit.dflt).1, .int .i64 (t.2.2.2.2.1.getD k tExit.dflt).2.1, .ro tVal (t.2.2.2.2.1.getD k tExit.dflt).2.2.1, .ro tMake (t.2.2.2.2.1.getD k tExit.dflt).2.2.2]] [.cells 29 (Ty.enc tTrace t), bCm8, .cells 97 [.osl 4 1 at_.length, .bool f], (bCm4 t lo ins xs), .ovec 3 tI at_, .ovec 46 tIns ins, .ovec 27 tExit xs, (bCm2 t k)] (.agg [.int .i64 (cutExit at_ (t.2.2.2.2.1.getD k tExit.dflt)).1, .int .i64 (cutExit at_ (t.2.2.2.2.1.getD k tExit.dflt)).2.1, .ro tVal (cutExit at_ (t.2.2.2.2.1.getD k tExit.dflt)).2.2.1, .ro tMake (cutExit at_ (t.2.2.2.2.1.getD k tExit.dflt)).2.2.2]) [.cells 29 (Ty.enc tTrace t), bCm8, .cells 97 [.osl 4 1 at_.length, .bool (f && cutExitOk at_ (t.2.2.2.2.1.getD k tExit.dflt))], (bCm4 t lo ins xs), .ovec 3 tI at_, .ovec 46 tIns ins, .ovec 27 tExit xs, (bCm2 t k)] [2, 4] <|
  .need (xs.length = xs.length) <|
  .need (0 = 0 ∧ 1 = ([(cutExit at_ (t.2.2.2.2.1.getD k tExit.dflt))]).length) <|
  .need ((xs.length + ([(cutExit at_ (t.2.2.2.2.1.getD k tExit.dflt))]).length) * 64 ≤ 140737488355328) <|
  .need (inR .i64 (((k : Nat) : Int) + 1)) <|
  .stop (lp (bodyOf Tryd.f22) 1) (J2 (.c (.ptr 0 0 0 0) :: .junk :: .c (.ptr 1 0 0 0) :: .junk :: .c (.ptr 2 0 0 0) :: .c (.ptr 3 0 0 0) :: J32 (J32 (J32 (J16 (J4 (.c (.ro tExit t.2.2.2.2.1) :: .c (.int .i64 (t.2.2.2.2.1.length : Int)) :: .c (.int .i64 (((k : Nat) : Int) + 1)) :: J16 (J8 (J4 (.junk :: [])))))))))) [.cells 29 (Ty.enc tTrace t), bCm8, .cells 97 [.osl 4 1 at_.length, .bool (f && cutExitOk at_ (t.2.2.2.2.1.getD k tExit.dflt))], .cells 29 [.int .i64 t.1, .int .i64 t.2.1, .int .i64 lo, .osl 5 8 ins.length, .osl 9 4 (xs ++ [(cutExit at_ (t.2.2.2.2.1.getD k tExit.dflt))]).length, .int .i64 0, .int .i64 0, .nilsl, .nilsl, .int .i64 0, .int .i64 0, .nilsl, .nilsl], .ovec 3 tI at_, .ovec 46 tIns ins, .dead, (bCm2 t k), .vec 27 tExit ([(cutExit at_ (t.2.2.2.2.1.getD k tExit.dflt))]), .ovec 27 tExit (xs ++ [(cutExit at_ (t.2.2.2.2.1.getD k tExit.dflt))])])
 (.callH 49 [.c (.ptr 2 0 0 0), .agg [.int .i64 t.2.2.2.2.2.1.1, .int .i64 t.2.2.2.2.2.1.2.1, .ro tVal t.2.2.2.2.2.1.2.2.1, .ro tMake t.2.2.2.2.2.1.2.2.2]] [.cells 29 (Ty.enc tTrace t), bCm8, .cells 97 [.osl 4 1 at_.length, .bool f], (bCm4 t lo ins xs), .ovec 3 tI at_, .ovec 46 tIns ins, .ovec 27 tExit xs] (.agg [.int .i64 (cutExit at_ t.2.2.2.2.2.1).1, .int .i64 (cutExit at_ t.2.2.2.2.2.1).2.1, .ro tVal (cutExit at_ t.2.2.2.2.2.1).2.2.1, .ro tMake (cutExit at_ t.2.2.2.2.2.1).2.2.2]) [.cells 29 (Ty.enc tTrace t), bCm8, .cells 97 [.osl 4 1 at_.length, .bool (f && cutExitOk at_ t.2.2.2.2.2.1)], (bCm4 t lo ins xs), .ovec 3 tI at_, .ovec 46 tIns ins, .ovec 27 tExit xs] [2, 4] <|
  .callH 49 [.c (.ptr 2 0 0 0), .agg [.int .i64 t.2.2.2.2.2.2.1, .int .i64 t.2.2.2.2.2.2.2.1, .ro tVal t.2.2.2.2.2.2.2.2.1, .ro tMake t.2.2.2.2.2.2.2.2.2]] [.cells 29 (Ty.enc tTrace t), bCm8, .cells 97 [.osl 4 1 at_.length, .bool (f && cutExitOk at_ t.2.2.2.2.2.1)], (bCm4 t lo ins xs), .ovec 3 tI at_, .ovec 46 tIns ins, .ovec 27 tExit xs] (.agg [.int .i64 (cutExit at_ t.2.2.2.2.2.2).1, .int .i64 (cutExit at_ t.2.2.2.2.2.2).2.1, .ro tVal (cutExit at_ t.2.2.2.2.2.2).2.2.1, .ro tMake (cutExit at_ t.2.2.2.2.2.2).2.2.2]) [.cells 29 (Ty.enc tTrace t), bCm8, .cells 97 [.osl 4 1 at_.length, .bool ((f && cutExitOk at_ t.2.2.2.2.2.1) && cutExitOk at_ t.2.2.2.2.2.2)], (bCm4 t lo ins xs), .ovec 3 tI at_, .ovec 46 tIns ins, .ovec 27 tExit xs] [2, 4] <|
  .ite ((!((f && cutExitOk at_ t.2.2.2.2.2.1) && cutExitOk at_ t.2.2.2.2.2.2)))
  (.ret (.tup [.agg bCm9, .c (.int .i64 3)]) [.cells 29 (Ty.enc tTrace t), bCm8, .cells 97 [.osl 4 1 at_.length, .bool ((f && cutExitOk at_ t.2.2.2.2.2.1) && cutExitOk at_ t.2.2.2.2.2.2)], (bCm0 t lo ins xs at_), .ovec 3 tI at_, .ovec 46 tIns ins, .ovec 27 tExit xs])
  (.ret (.tup [.agg [.int .i64 t.1, .int .i64 t.2.1, .int .i64 lo, .osl 5 8 ins.length, .osl 6 4 xs.length, .int .i64 (cutExit at_ t.2.2.2.2.2.1).1, .int .i64 (cutExit at_ t.2.2.2.2.2.1).2.1, .ro tVal (cutExit at_ t.2.2.2.2.2.1).2.2.1, .ro tMake (cutExit at_ t.2.2.2.2.2.1).2.2.2, .int .i64 (cutExit at_ t.2.2.2.2.2.2).1, .int .i64 (cutExit at_ t.2.2.2.2.2.2).2.1, .ro tVal (cutExit at_ t.2.2.2.2.2.2).2.2.1, .ro tMake (cutExit at_ t.2.2.2.2.2.2).2.2.2], .c (.int .i64 0)]) [.cells 29 (Ty.enc tTrace t), (bCm0 t lo ins xs at_), .cells 97 [.osl 4 1 at_.length, .bool ((f && cutExitOk at_ t.2.2.2.2.2.1) && cutExitOk at_ t.2.2.2.2.2.2)], (bCm0 t lo ins xs at_), .ovec 3 tI at_, .ovec 46 tIns ins, .ovec 27 tExit xs]))
theorem cut_l1_R_ok (t : ETrace) (to : List Int) (k : Nat) (f : Bool) (lo : Int) (at_ : List Int) (ins : List EIns) (xs : List EExit) : aRound Tryd.prog oc23 Tryd.f22 cut_lv 3000 (lp (bodyOf Tryd.f22) 1) (J2 (.c (.ptr 0 0 0 0) :: .junk :: .c (.ptr 1 0 0 0) :: .junk :: .c (.ptr 2 0 0 0) :: .c (.ptr 3 0 0 0) :: J32 (J32 (J32 (J16 (J4 (.c (.ro tExit t.2.2.2.2.1) :: .c (.int .i64 (t.2.2.2.2.1.length : Int)) :: .c (.int .i64 ((k : Nat) : Int)) :: J16 (J8 (J4 (.junk :: [])))))))))) [.cells 29 (Ty.enc tTrace t), bCm8, .cells 97 [.osl 4 1 at_.length, .bool f], (bCm4 t lo ins xs), .ovec 3 tI at_, .ovec 46 tIns ins, .ovec 27 tExit xs] = cut_l1_R t to k f lo at_ ins xs := by kernel_rfl
theorem cut_l1 (t : ETrace) (to : List Int) (k : Nat) (f : Bool) (lo : Int) (at_ : List Int) (ins : List EIns) (xs : List EExit) (hs : traceSm t) (hx : xs.length ≤ k) : Run Tryd.prog 22 (retQ Tryd.prog (.tup [.agg (Ty.enc tTrace ((endF t at_ f lo ins xs k).1)), .c (.int .i64 ((endF t at_ f lo ins xs k).2))])) (lp (bodyOf Tryd.f22) 1) (J2 (.c (.ptr 0 0 0 0) :: .junk :: .c (.ptr 1 0 0 0) :: .junk :: .c (.ptr 2 0 0 0) :: .c (.ptr 3 0 0 0) :: J32 (J32 (J32 (J16 (J4 (.c (.ro tExit t.2.2.2.2.1) :: .c (.int .i64 (t.2.2.2.2.1.length : Int)) :: .c (.int .i64 ((k : Nat) : Int)) :: J16 (J8 (J4 (.junk :: [])))))))))) [.cells 29 (Ty.enc tTrace t), bCm8, .cells 97 [.osl 4 1 at_.length, .bool f], (bCm4 t lo ins xs), .ovec 3 tI at_, .ovec 46 tIns ins, .ovec 27 tExit xs] :=
 Run.roundA oc23 cut_lv 3000 Tryd.func22 mixed (cut_l1_R t to k f lo at_ ins xs) (cut_l1_R_ok t to k f lo at_ ins xs) (by
  unfold cut_l1_R
  refine g_iteD (fun h0 => ?_) (fun h0 => ?_)
  ·refine g_need (by omega) ?_
   refine g_need (by omega) ?_
   refine g_callH (AFunH.frameB [2, 4] (cexit_fun at_ f (t.2.2.2.2.1.getD k tExit.dflt) (by first | exact hs.2.2.1 | exact hs.2.2.2 | exact hs.2.1.2 _ (getD_mem (α := EExit) (Ty.dflt tExit) (by omega)))) rfl rfl rfl rfl rfl rfl rfl) ?_
   refine g_need (rfl) ?_
   refine g_need (⟨rfl, rfl⟩) ?_
   refine g_need (by first | omega | (constructor <;> omega) | (rw [i64_iff]; omega) | rfl | (have q1 := hs.1; have q2 := hs.2.1.1; (try simp only [List.length_cons, List.length_nil]); first | omega | (rw [i64_iff]; omega) | (constructor <;> omega))) ?_
   refine g_need (by first | omega | (constructor <;> omega) | (rw [i64_iff]; omega) | rfl | (have q1 := hs.1; have q2 := hs.2.1.1; (try simp only [List.length_cons, List.length_nil]); first | omega | (rw [i64_iff]; omega) | (constructor <;> omega))) ?_
   refine g_stop (RunN.keep [0, 1, 2, 3, 4, 5, 9] (F2 (true :: false :: true :: false :: true :: true :: F32 (F32 (F32 (F16 (F4 (true :: true :: true :: F16 (F8 (F4 (false :: [])))))))))) n0 (by decide) rfl rfl ?_)
   have ht := cut_l1 t to (k + 1) (f && cutExitOk at_ (t.2.2.2.2.1.getD k tExit.dflt)) lo at_ ins (xs ++ [(cutExit at_ (t.2.2.2.2.1.getD k tExit.dflt))]) hs (by simp; omega); rw [endF_step (by omega)]; exact ht
  ·refine g_callH (AFunH.frameB [2, 4] (cexit_fun at_ f t.2.2.2.2.2.1 (by first | exact hs.2.2.1 | exact hs.2.2.2 | exact hs.2.1.2 _ (getD_mem (α := EExit) (Ty.dflt tExit) (by omega)))) rfl rfl rfl rfl rfl rfl rfl) ?_
   refine g_callH (AFunH.frameB [2, 4] (cexit_fun at_ (f && cutExitOk at_ t.2.2.2.2.2.1) t.2.2.2.2.2.2 (by first | exact hs.2.2.1 | exact hs.2.2.2 | exact hs.2.1.2 _ (getD_mem (α := EExit) (Ty.dflt tExit) (by omega)))) rfl rfl rfl rfl rfl rfl rfl) ?_
   refine g_iteN (fun h1 => ?_) (fun h1 => ?_)
   ·first | rw [endF_t (by omega) (by assumption)] | rw [endF_f (by omega) (by assumption)]
    refine g_rq ?_
    exact g_rl (⟨⟨⟨rfl, rfl⟩, ⟨rfl, rfl⟩, ⟨rfl, rfl⟩, rfl, rfl, ⟨rfl, rfl⟩, ⟨rfl, rfl⟩, rfl, rfl, ⟨rfl, rfl⟩, ⟨rfl, rfl⟩, rfl, rfl, trivial⟩, ⟨rfl, rfl⟩, trivial⟩) rfl
   ·first | rw [endF_t (by omega) (by assumption)] | rw [endF_f (by omega) (by assumption)]
    refine g_rq ?_
    refine g_need (rfl) ?_
    refine g_need (rfl) ?_
    exact g_rl (⟨⟨⟨rfl, rfl⟩, ⟨rfl, rfl⟩, ⟨rfl, rfl⟩, ⟨rfl, rfl⟩, ⟨rfl, rfl⟩, ⟨rfl, rfl⟩, ⟨rfl, rfl⟩, ⟨rfl, rfl⟩, ⟨rfl, rfl⟩, ⟨rfl, rfl⟩, ⟨rfl, rfl⟩, ⟨rfl, rfl⟩, ⟨rfl, rfl⟩, trivial⟩, ⟨rfl, rfl⟩, trivial⟩) rfl
  )
 termination_by t.2.2.2.2.1.length - k
 decreasing_by all_goals omega
theorem cut_r24 (t : ETrace) (to : List Int) (f : Bool) (lo : Int) (at_ : List Int) (ins : List EIns) (hs : traceSm t) : Run Tryd.prog 22 (retQ Tryd.prog (.tup [.agg (Ty.enc tTrace ((cutEnd t at_ f lo ins).1)), .c (.int .i64 ((cutEnd t at_ f lo ins).2))])) (rg (bodyOf Tryd.f22) 24) (J2 (.c (.ptr 0 0 0 0) :: .junk :: .c (.ptr 1 0 0 0) :: .junk :: .c (.ptr 2 0 0 0) :: .c (.ptr 3 0 0 0) :: J32 (J32 (J32 (J32 (J16 (J4 ([])))))))) [.cells 29 (Ty.enc tTrace t), bCm8, .cells 97 [.osl 4 1 at_.length, .bool f], (bCm5 t lo ins), .ovec 3 tI at_, .ovec 46 tIns ins] :=
 Run.roundA oc23 cut_lv 3000 Tryd.func22 mixed (cut_r24_R t to f lo at_ ins) (cut_r24_R_ok t to f lo at_ ins) (by
  unfold cut_r24_R
  refine g_stop (RunN.keep [0, 1, 2, 3, 4, 5, 1006] (F2 (true :: false :: true :: false :: true :: true :: F32 (F32 (F32 (F16 (F4 (true :: true :: true :: F16 (F8 (F4 (false :: [])))))))))) n0 (by decide) rfl rfl ?_)
  refine RunN.less (env' := (J2 (.c (.ptr 0 0 0 0) :: .junk :: .c (.ptr 1 0 0 0) :: .junk :: .c (.ptr 2 0 0 0) :: .c (.ptr 3 0 0 0) :: J32 (J32 (J32 (J16 (J4 (.c (.ro tExit t.2.2.2.2.1) :: .c (.int .i64 (t.2.2.2.2.1.length : Int)) :: .c (.int .i64 ((0 : Nat) : Int)) :: J16 (J8 (J4 (.junk :: []))))))))))) (H' := [.cells 29 (Ty.enc tTrace t), bCm8, .cells 97 [.osl 4 1 at_.length, .bool f], .cells 29 [.int .i64 t.1, .int .i64 t.2.1, .int .i64 lo, .osl 5 8 ins.length, .osl 6 4 0, .int .i64 0, .int .i64 0, .nilsl, .nilsl, .int .i64 0, .int .i64 0, .nilsl, .nilsl], .ovec 3 tI at_, .ovec 46 tIns ins, .ovec 27 tExit ([])]) (leAVs.same rfl) (⟨leB.refl _, leB.refl _, leB.refl _, ⟨rfl, leC.refl _, leC.refl _, leC.refl _, leC.refl _, rfl, leC.refl _, leC.refl _, leC.refl _, leC.refl _, leC.refl _, leC.refl _, leC.refl _, leC.refl _, trivial⟩, leB.refl _, leB.refl _, rfl, trivial⟩) ?_
  exact cut_l1 t to 0 f lo at_ ins ([]) hs (by simp)
  )
theorem cut_l0 (t : ETrace) (to : List Int) (i : Nat) (f : Bool) (lo : Int) (at_ : List Int) (ins : List EIns) (hs : traceSm t) (hl : to.length = t.2.2.2.1.length) (ha : at_.length = i) (hi : ins.length ≤ i) : Run Tryd.prog 22 (retQ Tryd.prog (.tup [.agg (Ty.enc tTrace ((cutThen t (cutLoop t.2.2.1 i (t.2.2.2.1.drop i) (to.drop i) at_ f lo ins)).1)), .c (.int .i64 ((cutThen t (cutLoop t.2.2.1 i (t.2.2.2.1.drop i) (to.drop i) at_ f lo ins)).2))])) (lp (bodyOf Tryd.f22) 0) (.junk :: .c (.ro tI to) :: .c (.ptr 0 0 0 0) :: .junk :: .c (.ptr 1 0 0 0) :: .junk :: .c (.ptr 2 0 0 0) :: .c (.ptr 3 0 0 0) :: J16 (bCm7 t i)) [.cells 29 (Ty.enc tTrace t), bCm8, .cells 97 [.osl 4 1 at_.length, .bool f], (bCm5 t lo ins), .ovec 3 tI at_, .ovec 46 tIns ins] :=
 Run.roundA oc23 cut_lv 3000 Tryd.func22 mixed (cut_l0_R t to i f lo at_ ins) (cut_l0_R_ok t to i f lo at_ ins) (by
  unfold cut_l0_R
  refine g_iteD (fun h0 => ?_) (fun h0 => ?_)
  ·refine g_need (by omega) ?_
   refine g_need (by omega) ?_
   refine g_iteD (fun h1 => ?_) (fun h1 => ?_)
   ·refine g_need (by omega) ?_
    refine g_need (by omega) ?_
    refine g_iteD (fun h2 => ?_) (fun h2 => ?_)
    ·refine g_need (rfl) ?_
     refine g_need (⟨rfl, rfl⟩) ?_
     refine g_need (by first | omega | (constructor <;> omega) | (rw [i64_iff]; omega) | rfl | (have q1 := hs.1; have q2 := hs.2.1.1; (try simp only [List.length_cons, List.length_nil]); first | omega | (rw [i64_iff]; omega) | (constructor <;> omega))) ?_
     refine g_callH (AFunH.frameB [2, 8] (cins_fun (at_ ++ [((ins.length : Nat) : Int)]) f (t.2.2.2.1.getD i tIns.dflt)) rfl rfl rfl rfl rfl rfl rfl) ?_
     refine g_need (rfl) ?_
     refine g_need (⟨rfl, rfl⟩) ?_
     refine g_need (by first | omega | (constructor <;> omega) | (rw [i64_iff]; omega) | rfl | (have q1 := hs.1; have q2 := hs.2.1.1; (try simp only [List.length_cons, List.length_nil]); first | omega | (rw [i64_iff]; omega) | (constructor <;> omega))) ?_
     refine g_need (by first | omega | (constructor <;> omega) | (rw [i64_iff]; omega) | rfl | (have q1 := hs.1; have q2 := hs.2.1.1; (try simp only [List.length_cons, List.length_nil]); first | omega | (rw [i64_iff]; omega) | (constructor <;> omega))) ?_
     refine g_stop (RunN.keep [0, 1, 2, 3, 8, 10] (false :: true :: true :: false :: true :: false :: true :: true :: F16 (F4 (true :: true :: true :: F32 (F32 (F32 (F16 (F8 (F4 (false :: []))))))))) n0 (by decide) rfl rfl ?_)
     have ht := cut_l0 t to (i + 1) (f && cutInsOk (at_ ++ [((ins.length : Nat) : Int)]) (t.2.2.2.1.getD i tIns.dflt)) ((ins.length : Nat) : Int) (at_ ++ [((ins.length : Nat) : Int)]) (ins ++ [(cutIns (at_ ++ [((ins.length : Nat) : Int)]) (t.2.2.2.1.getD i tIns.dflt))]) hs hl (by simp; omega) (by first | omega | (simp; omega)); rw [dropCons (α := EIns) (Ty.dflt tIns) (by omega : i < t.2.2.2.1.length), dropCons (α := Int) (Ty.dflt tI) (by omega : i < to.length), cutLoop]; (first | rw [if_pos h2] | rw [if_neg h2, if_pos h3] | rw [if_neg h2, if_neg h3, if_pos h4, if_pos h5]); (first | rw [if_pos h1] | rw [if_neg h1]); exact ht
    ·refine g_iteD (fun h3 => ?_) (fun h3 => ?_)
     ·refine g_need (rfl) ?_
      refine g_need (⟨rfl, rfl⟩) ?_
      refine g_need (by first | omega | (constructor <;> omega) | (rw [i64_iff]; omega) | rfl | (have q1 := hs.1; have q2 := hs.2.1.1; (try simp only [List.length_cons, List.length_nil]); first | omega | (rw [i64_iff]; omega) | (constructor <;> omega))) ?_
      refine g_need (by first | omega | (constructor <;> omega) | (rw [i64_iff]; omega) | rfl | (have q1 := hs.1; have q2 := hs.2.1.1; (try simp only [List.length_cons, List.length_nil]); first | omega | (rw [i64_iff]; omega) | (constructor <;> omega))) ?_
      refine g_stop (RunN.keep [0, 1, 2, 3, 8, 5] (false :: true :: true :: false :: true :: false :: true :: true :: F16 (F4 (true :: true :: true :: F32 (F32 (F32 (F16 (F8 (F4 (false :: []))))))))) n0 (by decide) rfl rfl ?_)
      have ht := cut_l0 t to (i + 1) f ((ins.length : Nat) : Int) (at_ ++ [(-1)]) ins hs hl (by simp; omega) (by first | omega | (simp; omega)); rw [dropCons (α := EIns) (Ty.dflt tIns) (by omega : i < t.2.2.2.1.length), dropCons (α := Int) (Ty.dflt tI) (by omega : i < to.length), cutLoop]; (first | rw [if_pos h2] | rw [if_neg h2, if_pos h3] | rw [if_neg h2, if_neg h3, if_pos h4, if_pos h5]); (first | rw [if_pos h1] | rw [if_neg h1]); exact ht
     ·refine g_iteD (fun h4 => ?_) (fun h4 => ?_)
      ·refine g_iteD (fun h5 => ?_) (fun h5 => ?_)
       ·refine g_need (by omega) ?_
        refine g_need (by omega) ?_
        refine g_need (rfl) ?_
        refine g_need (⟨rfl, rfl⟩) ?_
        refine g_need (by first | omega | (constructor <;> omega) | (rw [i64_iff]; omega) | rfl | (have q1 := hs.1; have q2 := hs.2.1.1; (try simp only [List.length_cons, List.length_nil]); first | omega | (rw [i64_iff]; omega) | (constructor <;> omega))) ?_
        refine g_need (by first | omega | (constructor <;> omega) | (rw [i64_iff]; omega) | rfl | (have q1 := hs.1; have q2 := hs.2.1.1; (try simp only [List.length_cons, List.length_nil]); first | omega | (rw [i64_iff]; omega) | (constructor <;> omega))) ?_
        refine g_stop (RunN.keep [0, 1, 2, 3, 8, 5] (false :: true :: true :: false :: true :: false :: true :: true :: F16 (F4 (true :: true :: true :: F32 (F32 (F32 (F16 (F8 (F4 (false :: []))))))))) n0 (by decide) rfl rfl ?_)
        have ht := cut_l0 t to (i + 1) f ((ins.length : Nat) : Int) (at_ ++ [(at_.getD (Int.toNat (to.getD i tI.dflt)) tI.dflt)]) ins hs hl (by simp; omega) (by first | omega | (simp; omega)); rw [dropCons (α := EIns) (Ty.dflt tIns) (by omega : i < t.2.2.2.1.length), dropCons (α := Int) (Ty.dflt tI) (by omega : i < to.length), cutLoop]; (first | rw [if_pos h2] | rw [if_neg h2, if_pos h3] | rw [if_neg h2, if_neg h3, if_pos h4, if_pos h5]); (first | rw [if_pos h1] | rw [if_neg h1]); exact ht
       ·rw [dropCons (α := EIns) (Ty.dflt tIns) (by omega : i < t.2.2.2.1.length), dropCons (α := Int) (Ty.dflt tI) (by omega : i < to.length), cutLoop]; first | rw [if_neg h2, if_neg h3, if_neg h4] | rw [if_neg h2, if_neg h3, if_pos h4, if_neg h5]
        refine g_rq ?_
        exact g_rl (⟨⟨⟨rfl, rfl⟩, ⟨rfl, rfl⟩, ⟨rfl, rfl⟩, rfl, rfl, ⟨rfl, rfl⟩, ⟨rfl, rfl⟩, rfl, rfl, ⟨rfl, rfl⟩, ⟨rfl, rfl⟩, rfl, rfl, trivial⟩, ⟨rfl, rfl⟩, trivial⟩) rfl
      ·rw [dropCons (α := EIns) (Ty.dflt tIns) (by omega : i < t.2.2.2.1.length), dropCons (α := Int) (Ty.dflt tI) (by omega : i < to.length), cutLoop]; first | rw [if_neg h2, if_neg h3, if_neg h4] | rw [if_neg h2, if_neg h3, if_pos h4, if_neg h5]
       refine g_rq ?_
       exact g_rl (⟨⟨⟨rfl, rfl⟩, ⟨rfl, rfl⟩, ⟨rfl, rfl⟩, rfl, rfl, ⟨rfl, rfl⟩, ⟨rfl, rfl⟩, rfl, rfl, ⟨rfl, rfl⟩, ⟨rfl, rfl⟩, rfl, rfl, trivial⟩, ⟨rfl, rfl⟩, trivial⟩) rfl
   ·refine g_need (by omega) ?_
    refine g_need (by omega) ?_
    refine g_iteD (fun h2 => ?_) (fun h2 => ?_)
    ·refine g_need (rfl) ?_
     refine g_need (⟨rfl, rfl⟩) ?_
     refine g_need (by first | omega | (constructor <;> omega) | (rw [i64_iff]; omega) | rfl | (have q1 := hs.1; have q2 := hs.2.1.1; (try simp only [List.length_cons, List.length_nil]); first | omega | (rw [i64_iff]; omega) | (constructor <;> omega))) ?_
     refine g_callH (AFunH.frameB [2, 8] (cins_fun (at_ ++ [((ins.length : Nat) : Int)]) f (t.2.2.2.1.getD i tIns.dflt)) rfl rfl rfl rfl rfl rfl rfl) ?_
     refine g_need (rfl) ?_
     refine g_need (⟨rfl, rfl⟩) ?_
     refine g_need (by first | omega | (constructor <;> omega) | (rw [i64_iff]; omega) | rfl | (have q1 := hs.1; have q2 := hs.2.1.1; (try simp only [List.length_cons, List.length_nil]); first | omega | (rw [i64_iff]; omega) | (constructor <;> omega))) ?_
     refine g_need (by first | omega | (constructor <;> omega) | (rw [i64_iff]; omega) | rfl | (have q1 := hs.1; have q2 := hs.2.1.1; (try simp only [List.length_cons, List.length_nil]); first | omega | (rw [i64_iff]; omega) | (constructor <;> omega))) ?_
     refine g_stop (RunN.keep [0, 1, 2, 3, 8, 10] (false :: true :: true :: false :: true :: false :: true :: true :: F16 (F4 (true :: true :: true :: F32 (F32 (F32 (F16 (F8 (F4 (false :: []))))))))) n0 (by decide) rfl rfl ?_)
     have ht := cut_l0 t to (i + 1) (f && cutInsOk (at_ ++ [((ins.length : Nat) : Int)]) (t.2.2.2.1.getD i tIns.dflt)) lo (at_ ++ [((ins.length : Nat) : Int)]) (ins ++ [(cutIns (at_ ++ [((ins.length : Nat) : Int)]) (t.2.2.2.1.getD i tIns.dflt))]) hs hl (by simp; omega) (by first | omega | (simp; omega)); rw [dropCons (α := EIns) (Ty.dflt tIns) (by omega : i < t.2.2.2.1.length), dropCons (α := Int) (Ty.dflt tI) (by omega : i < to.length), cutLoop]; (first | rw [if_pos h2] | rw [if_neg h2, if_pos h3] | rw [if_neg h2, if_neg h3, if_pos h4, if_pos h5]); (first | rw [if_pos h1] | rw [if_neg h1]); exact ht
    ·refine g_iteD (fun h3 => ?_) (fun h3 => ?_)
     ·refine g_need (rfl) ?_
      refine g_need (⟨rfl, rfl⟩) ?_
      refine g_need (by first | omega | (constructor <;> omega) | (rw [i64_iff]; omega) | rfl | (have q1 := hs.1; have q2 := hs.2.1.1; (try simp only [List.length_cons, List.length_nil]); first | omega | (rw [i64_iff]; omega) | (constructor <;> omega))) ?_
      refine g_need (by first | omega | (constructor <;> omega) | (rw [i64_iff]; omega) | rfl | (have q1 := hs.1; have q2 := hs.2.1.1; (try simp only [List.length_cons, List.length_nil]); first | omega | (rw [i64_iff]; omega) | (constructor <;> omega))) ?_
      refine g_stop (RunN.keep [0, 1, 2, 3, 8, 5] (false :: true :: true :: false :: true :: false :: true :: true :: F16 (F4 (true :: true :: true :: F32 (F32 (F32 (F16 (F8 (F4 (false :: []))))))))) n0 (by decide) rfl rfl ?_)
      have ht := cut_l0 t to (i + 1) f lo (at_ ++ [(-1)]) ins hs hl (by simp; omega) (by first | omega | (simp; omega)); rw [dropCons (α := EIns) (Ty.dflt tIns) (by omega : i < t.2.2.2.1.length), dropCons (α := Int) (Ty.dflt tI) (by omega : i < to.length), cutLoop]; (first | rw [if_pos h2] | rw [if_neg h2, if_pos h3] | rw [if_neg h2, if_neg h3, if_pos h4, if_pos h5]); (first | rw [if_pos h1] | rw [if_neg h1]); exact ht
     ·refine g_iteD (fun h4 => ?_) (fun h4 => ?_)
      ·refine g_iteD (fun h5 => ?_) (fun h5 => ?_)
       ·refine g_need (by omega) ?_
        refine g_need (by omega) ?_
        refine g_need (rfl) ?_
        refine g_need (⟨rfl, rfl⟩) ?_
        refine g_need (by first | omega | (constructor <;> omega) | (rw [i64_iff]; omega) | rfl | (have q1 := hs.1; have q2 := hs.2.1.1; (try simp only [List.length_cons, List.length_nil]); first | omega | (rw [i64_iff]; omega) | (constructor <;> omega))) ?_
        refine g_need (by first | omega | (constructor <;> omega) | (rw [i64_iff]; omega) | rfl | (have q1 := hs.1; have q2 := hs.2.1.1; (try simp only [List.length_cons, List.length_nil]); first | omega | (rw [i64_iff]; omega) | (constructor <;> omega))) ?_
        refine g_stop (RunN.keep [0, 1, 2, 3, 8, 5] (false :: true :: true :: false :: true :: false :: true :: true :: F16 (F4 (true :: true :: true :: F32 (F32 (F32 (F16 (F8 (F4 (false :: []))))))))) n0 (by decide) rfl rfl ?_)
        have ht := cut_l0 t to (i + 1) f lo (at_ ++ [(at_.getD (Int.toNat (to.getD i tI.dflt)) tI.dflt)]) ins hs hl (by simp; omega) (by first | omega | (simp; omega)); rw [dropCons (α := EIns) (Ty.dflt tIns) (by omega : i < t.2.2.2.1.length), dropCons (α := Int) (Ty.dflt tI) (by omega : i < to.length), cutLoop]; (first | rw [if_pos h2] | rw [if_neg h2, if_pos h3] | rw [if_neg h2, if_neg h3, if_pos h4, if_pos h5]); (first | rw [if_pos h1] | rw [if_neg h1]); exact ht
       ·rw [dropCons (α := EIns) (Ty.dflt tIns) (by omega : i < t.2.2.2.1.length), dropCons (α := Int) (Ty.dflt tI) (by omega : i < to.length), cutLoop]; first | rw [if_neg h2, if_neg h3, if_neg h4] | rw [if_neg h2, if_neg h3, if_pos h4, if_neg h5]
        refine g_rq ?_
        exact g_rl (⟨⟨⟨rfl, rfl⟩, ⟨rfl, rfl⟩, ⟨rfl, rfl⟩, rfl, rfl, ⟨rfl, rfl⟩, ⟨rfl, rfl⟩, rfl, rfl, ⟨rfl, rfl⟩, ⟨rfl, rfl⟩, rfl, rfl, trivial⟩, ⟨rfl, rfl⟩, trivial⟩) rfl
      ·rw [dropCons (α := EIns) (Ty.dflt tIns) (by omega : i < t.2.2.2.1.length), dropCons (α := Int) (Ty.dflt tI) (by omega : i < to.length), cutLoop]; first | rw [if_neg h2, if_neg h3, if_neg h4] | rw [if_neg h2, if_neg h3, if_pos h4, if_neg h5]
       refine g_rq ?_
       exact g_rl (⟨⟨⟨rfl, rfl⟩, ⟨rfl, rfl⟩, ⟨rfl, rfl⟩, rfl, rfl, ⟨rfl, rfl⟩, ⟨rfl, rfl⟩, rfl, rfl, ⟨rfl, rfl⟩, ⟨rfl, rfl⟩, rfl, rfl, trivial⟩, ⟨rfl, rfl⟩, trivial⟩) rfl
  ·refine g_iteD (fun h1 => ?_) (fun h1 => ?_)
   ·refine g_iteD (fun h2 => ?_) (fun h2 => ?_)
    ·refine g_stop (RunN.keep [0, 1, 2, 3, 4, 5] (F2 (true :: false :: true :: false :: true :: true :: F32 (F32 (F32 (F32 (F16 (F4 ([])))))))) n0 (by decide) rfl rfl ?_)
     have ht := cut_r24 t to f 0 at_ ins hs; have e : loopAt t lo ins.length = 0 := (by simp only [loopAt, h0, h1, h2, if_true, if_false]); rw [List.drop_eq_nil_of_le (by omega : t.2.2.2.1.length ≤ i)]; simp only [cutLoop, cutThen, e]; exact ht
    ·refine g_stop (RunN.keep [0, 1, 2, 3, 4, 5] (F2 (true :: false :: true :: false :: true :: true :: F32 (F32 (F32 (F32 (F16 (F4 ([])))))))) n0 (by decide) rfl rfl ?_)
     have ht := cut_r24 t to f ((ins.length : Nat) : Int) at_ ins hs; have e : loopAt t lo ins.length = ((ins.length : Nat) : Int) := (by simp only [loopAt, h0, h1, h2, if_true, if_false]); rw [List.drop_eq_nil_of_le (by omega : t.2.2.2.1.length ≤ i)]; simp only [cutLoop, cutThen, e]; exact ht
   ·refine g_iteD (fun h2 => ?_) (fun h2 => ?_)
    ·refine g_stop (RunN.keep [0, 1, 2, 3, 4, 5] (F2 (true :: false :: true :: false :: true :: true :: F32 (F32 (F32 (F32 (F16 (F4 ([])))))))) n0 (by decide) rfl rfl ?_)
     have ht := cut_r24 t to f 0 at_ ins hs; have e : loopAt t lo ins.length = 0 := (by simp only [loopAt, h0, h1, h2, if_true, if_false]); rw [List.drop_eq_nil_of_le (by omega : t.2.2.2.1.length ≤ i)]; simp only [cutLoop, cutThen, e]; exact ht
    ·refine g_stop (RunN.keep [0, 1, 2, 3, 4, 5] (F2 (true :: false :: true :: false :: true :: true :: F32 (F32 (F32 (F32 (F16 (F4 ([])))))))) n0 (by decide) rfl rfl ?_)
     have ht := cut_r24 t to f lo at_ ins hs; have e : loopAt t lo ins.length = lo := (by simp only [loopAt, h0, h1, h2, if_true, if_false]); rw [List.drop_eq_nil_of_le (by omega : t.2.2.2.1.length ≤ i)]; simp only [cutLoop, cutThen, e]; exact ht
  )
 termination_by t.2.2.2.1.length - i
 decreasing_by all_goals omega
theorem cut_fun (t : ETrace) (to : List Int) (hs : traceSm t) : AFun Tryd.prog 22 [.agg (tTrace.enc t), .c (.ro tI to)] (.tup [.agg (Ty.enc tTrace ((cutF t to).1)), .c (.int .i64 ((cutF t to).2))]) :=
 AFun.of oc23 cut_lv 3000 Tryd.func22 mixed rfl (by decide) (Nat.le_of_ble_eq_true rfl) _ (cut_T_ok t to) fun hF => by
  unfold cut_T
  refine g_iteND (fun h0 => ?_) (fun h0 => ?_)
  ·rw [cutF, if_neg (by omega)]
   refine g_rq ?_
   exact g_rl (⟨⟨⟨rfl, rfl⟩, ⟨rfl, rfl⟩, ⟨rfl, rfl⟩, rfl, rfl, ⟨rfl, rfl⟩, ⟨rfl, rfl⟩, rfl, rfl, ⟨rfl, rfl⟩, ⟨rfl, rfl⟩, rfl, rfl, trivial⟩, ⟨rfl, rfl⟩, trivial⟩) rfl
  ·refine g_stop (RunN.keep [0, 1, 2, 3, 1004, 1005] (false :: true :: true :: false :: true :: false :: true :: true :: F16 (F4 (true :: true :: true :: F32 (F32 (F32 (F16 (F8 (F4 (false :: []))))))))) n0 (by decide) rfl rfl ?_)
   refine RunN.less (env' := (.junk :: .c (.ro tI to) :: .c (.ptr 0 0 0 0) :: .junk :: .c (.ptr 1 0 0 0) :: .junk :: .c (.ptr 2 0 0 0) :: .c (.ptr 3 0 0 0) :: J16 (J4 (.c (.ro tIns t.2.2.2.1) :: .c (.int .i64 (t.2.2.2.1.length : Int)) :: .c (.int .i64 ((0 : Nat) : Int)) :: J32 (J32 (J32 (J16 (J8 (J4 (.junk :: [])))))))))) (H' := [.cells 29 (Ty.enc tTrace t), bCm8, .cells 97 [.osl 4 1 0, .bool true], .cells 29 [.int .i64 t.1, .int .i64 t.2.1, .int .i64 0, .osl 5 8 0, .nilsl, .int .i64 0, .int .i64 0, .nilsl, .nilsl, .int .i64 0, .int .i64 0, .nilsl, .nilsl], .ovec 3 tI ([]), .ovec 46 tIns ([])]) (leAVs.same rfl) (⟨leB.refl _, leB.refl _, ⟨rfl, rfl, rfl, trivial⟩, ⟨rfl, leC.refl _, leC.refl _, leC.refl _, rfl, leC.refl _, leC.refl _, leC.refl _, leC.refl _, leC.refl _, leC.refl _, leC.refl _, leC.refl _, leC.refl _, trivial⟩, rfl, rfl, trivial⟩) ?_
   have ht := cut_l0 t to 0 true 0 ([]) ([]) hs (by omega) rfl (by simp); rw [cutF, if_pos (by omega)]; exact ht

end Go.Proofs.YtefkifdhjabdiaaDoor
namespace Go.Proofs.YtefkifdhjabdiaaDoor
set_option linter.unusedVariables false
set_option linter.unusedSimpArgs false
theorem right_small {p : EProg} {t : ETrace} (h : CheckOk p t) {x : EExit} {a : Int} (hx : rightXF (chkOf p t) x a = true) : exitSm x := by
 obtain ⟨_, _, h1, h2⟩ := rightXF_iff.1 hx
 have q1 := setsF_len h1
 obtain ⟨q2, q3⟩ := makesF_len h2
 have := h.regs
 have hn : (chkOf p t).2.2.2.2.1.length ≤ 300 := h.n
 exact ⟨by omega, by omega, fun m hm => Nat.le_trans (q3 m hm) (by omega)⟩
theorem CheckOk.small {p : EProg} {t : ETrace} (h : CheckOk p t) : traceSm t := by
 refine ⟨Nat.le_trans h.n (by omega), ⟨Nat.le_trans h.m (by omega), fun x hx => right_small h (h.exits x hx)⟩, ?_, right_small h h.back.2⟩
 rcases Int.lt_or_eq_of_le h.loop0 with hl | hl
 ·exact right_small h (h.turn1 hl).2
 ·have := bareF_iff.1 (h.turn0 hl.symm)
  rw [this]
  exact ⟨by simp, by simp, by simp⟩
end Go.Proofs.YtefkifdhjabdiaaDoor
namespace Go.Proofs.YtefkifdhjabdiaaDoor
set_option linter.unusedVariables false
set_option linter.unusedSimpArgs false
open Go.RowKit
theorem Stp.fresh {σ : Sg} {G G' : Nat → AB} {w w' : World} {m g : Nat} (hr : RelG σ G w) (hm : ¬ σ.D m) (hb : Below w.heap.size w w') (hg : w.heap.size ≤ g) (hB : ∀ σ', Ext σ w σ' w' → Blk σ' w' g (G' m)) :
  Stp σ G w [m] G' ⟨fun k => if k = m then g else σ.ι k, fun k => σ.D k ∨ k = m, σ.R⟩ w' := by
 have hx : Ext σ w ⟨fun k => if k = m then g else σ.ι k, fun k => σ.D k ∨ k = m, σ.R⟩ w' :=
  ⟨fun k hk => ⟨.inl hk, by simp only; rw [if_neg (by rintro rfl; exact hm hk)]⟩, fun _ h => h, fun k _ hlt => hb.block k hlt, fun k c e' fr hk => ⟨c, fr, by rw [hb.block k (Array.getElem?_eq_some_iff.1 hk).1]; exact hk, rfl⟩⟩
 refine ⟨fun b => by simp, hx, (Chg.of_below hb).mono fun _ h => h.elim, ?_, ?_, ?_, fun k h => .inl h, ?_, fun k hk => Nat.lt_of_lt_of_le (hr.rlt k hk) hb.size⟩
 ·intro b hb' _
  obtain rfl : b = m := by simpa using hb'
  have := hB _ hx
  simpa using this
 ·intro b hb' _
  obtain rfl : b = m := by simpa using hb'
  right; simpa using hg
 ·intro b hb' b' hb'' _ _ _
  obtain rfl : b = m := by simpa using hb'
  obtain rfl : b' = b := by simpa using hb''
  rfl
 ·intro b hb' _ hR
  obtain rfl : b = m := by simpa using hb'
  have := hr.rlt _ hR
  simp at this
  omega
/-- A function that tells a row of its own. -/
theorem AFunH.ofOwn {f : Nat} {t u : Ty} {e : TypeId} {xs : List t.El} {ys : List u.El} (hp : (t.rd : Rd t.El).sz = t.sz) (hen : ∀ v w, (callFunc f #[v]).run Tryd.prog w = .ok (.enter f #[v]) w) (h : ∀ (ok : Nat → Prop) (w : World) (v : Value), (∀ k, ok k → k < w.heap.size) → SlK u.rd ok w ys v → Calls Tryd.prog f #[v] w fun e' w' => ∃ v1, e' = .returned v1 ∧ Below w.heap.size w w' ∧ ((xs = [] ∧ ∃ A, v1 = .slice A 0 0) ∨ xs ≠ [] ∧ Own t.rd e ok w' w.heap.size v1 xs)) :
  AFunH Tryd.prog f [.c (.ro u ys)] [] (.c (.osl 0 t.sz xs.length)) [.ovec e t xs] [0] where
 len := by simp
 lt := by simp
 off := fun b hb => by
  have : b ≠ 0 := by simpa using hb
  rw [gv_none (by simp; omega), gv_none (by simp)]
 act := fun σ w vs hr hD hv => by
  obtain ⟨x, r, rfl, hx, hr'⟩ := vals_one hv
  obtain rfl := vals_nil hr'
  have hm : ¬ σ.D 0 := hD 0 (by simp) (by simp)
  refine .inl ⟨hen x w, (h σ.R w x hr.rlt hx).mono fun e' w' ⟨v1, he, hb, hq⟩ => ⟨v1, he, ?_⟩⟩
  clear he
  rcases hq with ⟨hn, A, rfl⟩ | ⟨hn, ho⟩
  ·subst hn
   refine ⟨_, Stp.fresh (g := w.heap.size) hr hm hb (Nat.le_refl _) (fun σ' _ => ?_), ?_⟩
   ·show Blk σ' w' _ (gv [AB.ovec e t []] 0)
    trivial
   ·exact ⟨A, rfl⟩
  ·obtain ⟨cells, ⟨hl, h2⟩, hxs⟩ := ho.ex
   have hlen : xs.length ≠ 0 := fun h => hn (List.eq_nil_of_length_eq_zero h)
   rcases h2 with ⟨_, h0⟩ | ⟨g, cap, cur, rfl, hg, hh, hc, hmx, hsz, htk⟩
   ·exact absurd h0 hlen
   ·refine ⟨_, Stp.fresh (g := g) hr hm hb hg (fun σ' hσ => ?_), ?_⟩
    ·show Blk σ' w' g (gv [AB.ovec e t xs] 0)
     rw [gv_ovec rfl hn]
     refine ⟨cur, hh, ?_, fun i y hi => ?_⟩
     ·rw [hsz, hp]; exact Nat.mul_le_mul_right _ hc
     ·have hi' : i < xs.length := (List.getElem?_eq_some_iff.1 hi).1
      have hq := hxs i y hi
      rw [hp, ← htk] at hq
      have e1 : (cur.toList.take (xs.length * t.rd.sz)).drop (i * t.sz) = (cur.toList.drop (i * t.sz)).take (xs.length * t.rd.sz - i * t.sz) := by rw [List.drop_take]
      rw [e1, List.take_take, Nat.min_eq_left (by rw [hp, ← Nat.sub_mul]; exact Nat.le_mul_of_pos_left _ (by omega))] at hq
      exact t.rd.mono (fun k hk => hσ.R k hk.1) hq
    ·show if xs.length = 0 then _ else _
     rw [if_neg hlen]
     exact ⟨.inr rfl, t.sz_pos, cap, cur, e, (0, 0), by simp, hc, by simpa [maxLen] using hmx, by simpa using hh, by rw [hsz, hp]⟩
theorem infoX : (Tryd.prog.info? 27).map (fun i => (i.zero, i.size, i.bytes)) = some (some (Value.agg #[.int .i64 0, .int .i64 0, .slice none 0 0, .slice none 0 0]), 4, 64) := by kernel_rfl
set_option maxRecDepth 100000 in
set_option maxHeartbeats 4000000 in
theorem cloneX_any (xs : List EExit) (hl : xs.length ≤ 1000) (ok : Nat → Prop) (w : World) (v : Value) (hok : ∀ k, ok k → k < w.heap.size) (h : SlK tExit.rd ok w xs v) :
  Calls Tryd.prog 52 #[v] w fun e w' => ∃ v1, e = .returned v1 ∧ Below w.heap.size w w' ∧ ((xs = [] ∧ ∃ A, v1 = .slice A 0 0) ∨ xs ≠ [] ∧ Own tExit.rd 27 ok w' w.heap.size v1 xs) := by
 obtain ⟨A, c, hv, h1, h2, h3, hC⟩ := h
 injection hv with hv
 subst hv
 cases A with
 | none =>
  have hc : c = 0 := h3 rfl
  subst hc
  have hx : xs = [] := List.eq_nil_of_length_eq_zero (by omega)
  subst hx
  clear hC h1 h2 h3 hl
  have hq : ([] : List EExit).length = 0 := rfl
  rw [hq]
  have heq : ∀ w, (binOp .eql 23 (.slice none 0 0) (.slice none 0 0)).run Tryd.prog w = .ok (.bool true) w := fun w => run_eql_nil_nil w _ _ Tryd.underlying23
  go_enter Tryd.func52, Tryd.ntmps52
  go_wp2_with fail
  go_ret
  exact ⟨_, rfl, Below.refl _ _, (by first | exact ⟨none, rfl⟩ | exact .inl ⟨trivial, none, rfl⟩)⟩
 | some a =>
  have heq : ∀ w, (binOp .eql 23 (.slice (some a) xs.length c) (.slice none 0 0)).run Tryd.prog w = .ok (.bool false) w := fun w => run_eql_some_nil w _ _ _ _ _ Tryd.underlying23
  have hB : Below w.heap.size w (w.alloc (.cells #[] 27)) := (Below.refl _ _).alloc (Nat.le_refl _) _
  have main : ∃ v1 w2, (Builtin.append_ #[23, 23] 23 #[.slice (some ⟨w.heap.size, 0, none⟩) 0 0, .slice (some a) xs.length c]).run Tryd.prog (w.alloc (.cells #[] 27)) = .ok v1 w2 ∧ Below w.heap.size w w2 ∧ ((xs = [] ∧ ∃ A, v1 = .slice A 0 0) ∨ xs ≠ [] ∧ Own tExit.rd 27 ok w2 w.heap.size v1 xs) := by
   by_cases hx : xs = []
   ·subst hx
    obtain ⟨ie, hie, _⟩ := Option.map_eq_some_iff.1 infoX
    exact ⟨_, _, run_append_none Tryd.underlying23 hie _ _ _ 0 0 _ c (Nat.le_refl _), hB, .inl ⟨rfl, _, rfl⟩⟩
   ·obtain ⟨v1, w2, hr, ho, hg, hat⟩ := (Own.laid tExit.rd 27 ok w w.heap.size (Nat.le_refl _)).append (t := 23) Tryd.underlying23 infoX rfl (by decide) (by decide) (some a) xs.length c (fun h => by cases h) (hC.move (fun k hk _ => hB.block k (hok k hk))) (fun k hk => ⟨hk, by simp only [Value.ownBlock]; intro he; injection he with he; have := hok k hk; omega⟩) (by simp; omega) (by simp) 23
    exact ⟨v1, w2, hr, hB.grown hg hB.size (fun k hk => by simp [Value.ownBlock] at hk; omega), .inr ⟨hx, by rw [List.nil_append] at ho; exact ho⟩⟩
  obtain ⟨v1, w2, hr, hres⟩ := main
  have H := Lib.hid hres
  clear hres hB hC h3 h1 h2 hl hok
  generalize xs.length = m at *
  go_enter Tryd.func52, Tryd.ntmps52
  go_wp2_with (at_builtin; refine wpList_append_eq rfl _ _ _ rfl _ _ rfl rfl hr ?_)
  go_ret
  exact ⟨_, rfl, H.out.1, H.out.2⟩
theorem cloneX_fun (xs : List EExit) (hl : xs.length ≤ 1000) : AFunH Tryd.prog 52 [.c (.ro tExit xs)] [] (.c (.osl 0 4 xs.length)) [.ovec 27 tExit xs] [0] :=
 AFunH.ofOwn (t := tExit) (u := tExit) rfl (fun v w => enters_of Tryd.func52 (by decide) rfl _ _) (cloneX_any xs hl)
theorem infoI : (Tryd.prog.info? 46).map (fun i => (i.zero, i.size, i.bytes)) = some (some (Value.agg #[.int .i64 0, .int .i64 0, .int .i64 0, .int .i64 0, .int .i64 0, .int .i64 0, .int .i64 0, .int .i64 0]), 8, 64) := by kernel_rfl
set_option maxRecDepth 100000 in
set_option maxHeartbeats 4000000 in
theorem cloneI_any (xs : List EIns) (hl : xs.length ≤ 1000) (ok : Nat → Prop) (w : World) (v : Value) (hok : ∀ k, ok k → k < w.heap.size) (h : SlK tIns.rd ok w xs v) :
  Calls Tryd.prog 64 #[v] w fun e w' => ∃ v1, e = .returned v1 ∧ Below w.heap.size w w' ∧ ((xs = [] ∧ ∃ A, v1 = .slice A 0 0) ∨ xs ≠ [] ∧ Own tIns.rd 46 ok w' w.heap.size v1 xs) := by
 obtain ⟨A, c, hv, h1, h2, h3, hC⟩ := h
 injection hv with hv
 subst hv
 cases A with
 | none =>
  have hc : c = 0 := h3 rfl
  subst hc
  have hx : xs = [] := List.eq_nil_of_length_eq_zero (by omega)
  subst hx
  clear hC h1 h2 h3 hl
  have hq : ([] : List EIns).length = 0 := rfl
  rw [hq]
  have heq : ∀ w, (binOp .eql 22 (.slice none 0 0) (.slice none 0 0)).run Tryd.prog w = .ok (.bool true) w := fun w => run_eql_nil_nil w _ _ Tryd.underlying22
  go_enter Tryd.func64, Tryd.ntmps64
  go_wp2_with fail
  go_ret
  exact ⟨_, rfl, Below.refl _ _, (by first | exact ⟨none, rfl⟩ | exact .inl ⟨trivial, none, rfl⟩)⟩
 | some a =>
  have heq : ∀ w, (binOp .eql 22 (.slice (some a) xs.length c) (.slice none 0 0)).run Tryd.prog w = .ok (.bool false) w := fun w => run_eql_some_nil w _ _ _ _ _ Tryd.underlying22
  have hB : Below w.heap.size w (w.alloc (.cells #[] 46)) := (Below.refl _ _).alloc (Nat.le_refl _) _
  have main : ∃ v1 w2, (Builtin.append_ #[22, 22] 22 #[.slice (some ⟨w.heap.size, 0, none⟩) 0 0, .slice (some a) xs.length c]).run Tryd.prog (w.alloc (.cells #[] 46)) = .ok v1 w2 ∧ Below w.heap.size w w2 ∧ ((xs = [] ∧ ∃ A, v1 = .slice A 0 0) ∨ xs ≠ [] ∧ Own tIns.rd 46 ok w2 w.heap.size v1 xs) := by
   by_cases hx : xs = []
   ·subst hx
    obtain ⟨ie, hie, _⟩ := Option.map_eq_some_iff.1 infoI
    exact ⟨_, _, run_append_none Tryd.underlying22 hie _ _ _ 0 0 _ c (Nat.le_refl _), hB, .inl ⟨rfl, _, rfl⟩⟩
   ·obtain ⟨v1, w2, hr, ho, hg, hat⟩ := (Own.laid tIns.rd 46 ok w w.heap.size (Nat.le_refl _)).append (t := 22) Tryd.underlying22 infoI rfl (by decide) (by decide) (some a) xs.length c (fun h => by cases h) (hC.move (fun k hk _ => hB.block k (hok k hk))) (fun k hk => ⟨hk, by simp only [Value.ownBlock]; intro he; injection he with he; have := hok k hk; omega⟩) (by simp; omega) (by simp) 22
    exact ⟨v1, w2, hr, hB.grown hg hB.size (fun k hk => by simp [Value.ownBlock] at hk; omega), .inr ⟨hx, by rw [List.nil_append] at ho; exact ho⟩⟩
  obtain ⟨v1, w2, hr, hres⟩ := main
  have H := Lib.hid hres
  clear hres hB hC h3 h1 h2 hl hok
  generalize xs.length = m at *
  go_enter Tryd.func64, Tryd.ntmps64
  go_wp2_with (at_builtin; refine wpList_append_eq rfl _ _ _ rfl _ _ rfl rfl hr ?_)
  go_ret
  exact ⟨_, rfl, H.out.1, H.out.2⟩
theorem cloneI_fun (xs : List EIns) (hl : xs.length ≤ 1000) : AFunH Tryd.prog 64 [.c (.ro tIns xs)] [] (.c (.osl 0 8 xs.length)) [.ovec 46 tIns xs] [0] :=
 AFunH.ofOwn (t := tIns) (u := tIns) rfl (fun v w => enters_of Tryd.func64 (by decide) rfl _ _) (cloneI_any xs hl)
end Go.Proofs.YtefkifdhjabdiaaDoor
namespace Go.Proofs.YtefkifdhjabdiaaDoor
set_option maxHeartbeats 4000000
set_option linter.unusedVariables false
set_option linter.unusedSimpArgs false
set_option maxRecDepth 100000
def iota (n : Nat) : List Int := (List.range n).map fun i : Nat => (i : Int)
theorem iota_succ (n : Nat) : iota n ++ [(n : Int)] = iota (n + 1) := by simp [iota, List.range_succ]
theorem iota_len (n : Nat) : (iota n).length = n := by simp [iota]
theorem iota_at {n : Nat} {v : Int} (h0 : 0 ≤ v) (h : v < n) : (iota n).getD v.toNat tI.dflt = v := by
 have hv : v.toNat < n := by omega
 rw [List.getD_eq_getElem?_getD, iota, List.getElem?_map, List.getElem?_range hv]
 show ((v.toNat : Nat) : Int) = v
 omega
theorem cutOne_iota {n : Nat} {v : Int} (h0 : 0 ≤ v) (h : v < n) : cutOne (iota n) v = (v, true) := by
 unfold cutOne
 rw [if_neg (by omega), if_neg (by rw [iota_len]; omega), if_neg (by rw [iota_at h0 h]; omega), iota_at h0 h]
theorem valueF_lt {c : EChk} {v a : Int} (h : valueF c v a = true) : 0 ≤ v ∧ v < a ∧ v < (c.2.2.2.2.1.length : Int) := by
 unfold valueF at h
 by_cases h1 : 0 ≤ v
 ·rw [if_pos h1] at h
  by_cases h2 : v < a
  ·rw [if_pos h2] at h
   by_cases h3 : v < (c.2.2.2.2.1.length : Int)
   ·exact ⟨h1, h2, h3⟩
   ·rw [if_neg h3] at h; cases h
  ·rw [if_neg h2] at h; cases h
 ·rw [if_neg h1] at h; cases h
theorem cut_sets {c : EChk} {a : Int} : ∀ {l : List EVal} {last : Int}, setsF c a last l = true → l.all (cutSetOk (iota c.2.2.2.2.1.length)) = true ∧ l.map (cutSet (iota c.2.2.2.2.1.length)) = l
 | [], _, _ => ⟨rfl, rfl⟩
 | s :: r, last, h => by
  unfold setsF at h
  split at h
  ·cases h
  ·split at h
   ·cases h
   ·split at h
    ·cases h
    ·rename_i _ _ hv
     obtain ⟨h0, _, h2⟩ := valueF_lt (by simpa using hv)
     obtain ⟨q1, q2⟩ := cut_sets h
     have e := cutOne_iota h0 h2
     refine ⟨?_, ?_⟩
     ·rw [List.all_cons, q1, cutSetOk, e]; rfl
     ·rw [List.map_cons, q2, cutSet, e]
theorem cut_make {c : EChk} {m : EMake} {a : Int} (h : makeF c m a = true) : cutMakeOk (iota c.2.2.2.2.1.length) m = true ∧ cutMake (iota c.2.2.2.2.1.length) m = m := by
 obtain ⟨h1, _, _, _, _, _, _, h8⟩ := makeF_iff.1 h
 obtain ⟨h0, _, h2⟩ := valueF_lt h1
 have e := cutOne_iota h0 h2
 have hl : ∀ v ∈ m.2.2.2, cutOne (iota c.2.2.2.2.1.length) v = (v, true) := fun v hv => by
  obtain ⟨h0, _, h2⟩ := valueF_lt (List.all_eq_true.1 h8 v hv)
  exact cutOne_iota h0 h2
 refine ⟨?_, ?_⟩
 ·unfold cutMakeOk
  rw [e, Bool.true_and, List.all_eq_true]
  exact fun v hv => by rw [hl v hv]
 ·unfold cutMake
  rw [e]
  have : (m.2.2.2.map fun v => (cutOne (iota c.2.2.2.2.1.length) v).1) = m.2.2.2 := by
   conv => rhs; rw [← List.map_id m.2.2.2]
   exact List.map_congr_left fun v hv => by rw [hl v hv]; rfl
  rw [this]
theorem cut_makes {c : EChk} {a : Int} : ∀ {l : List EMake} {last : Int}, makesF c a last l = true → l.all (cutMakeOk (iota c.2.2.2.2.1.length)) = true ∧ l.map (cutMake (iota c.2.2.2.2.1.length)) = l
 | [], _, _ => ⟨rfl, rfl⟩
 | m :: r, last, h => by
  unfold makesF at h
  split at h
  ·cases h
  ·split at h
   ·cases h
   ·rename_i _ hv
    obtain ⟨e1, e2⟩ := cut_make (c := c) (m := m) (a := a) (by simpa using hv)
    obtain ⟨q1, q2⟩ := cut_makes h
    exact ⟨by rw [List.all_cons, q1, e1]; rfl, by rw [List.map_cons, q2, e2]⟩
theorem cut_exit {c : EChk} {x : EExit} {a : Int} (h : rightXF c x a = true) : cutExitOk (iota c.2.2.2.2.1.length) x = true ∧ cutExit (iota c.2.2.2.2.1.length) x = x := by
 obtain ⟨_, _, h1, h2⟩ := rightXF_iff.1 h
 obtain ⟨a1, a2⟩ := cut_sets h1
 obtain ⟨b1, b2⟩ := cut_makes h2
 exact ⟨by unfold cutExitOk; rw [a1, b1]; rfl, by unfold cutExit; rw [a2, b2]⟩
theorem take_mem3 {a b c : Int} {n : Int} : (0 < n → a ∈ [a, b, c].take n.toNat) ∧ (1 < n → b ∈ [a, b, c].take n.toNat) ∧ (2 < n → c ∈ [a, b, c].take n.toNat) := by
 refine ⟨fun h => ?_, fun h => ?_, fun h => ?_⟩
 ·rw [show n.toNat = (n.toNat - 1) + 1 by omega]; simp
 ·rw [show n.toNat = (n.toNat - 2) + 1 + 1 by omega]; simp
 ·rw [show n.toNat = (n.toNat - 3) + 1 + 1 + 1 by omega]; simp
theorem cut_ins {c : EChk} {x : EIns} {i : Nat} (ht : (ofF x.1).2 = true) (h : formedF c (ofF x.1).1 x (i : Int) = true) : cutInsOk (iota (i + 1)) x = true ∧ cutIns (iota (i + 1)) x = x := by
 unfold formedF at h
 rw [Bool.and_eq_true] at h
 have hv := h.1
 obtain ⟨m0, m1, m2⟩ := take_mem3 (a := x.2.1) (b := x.2.2.1) (c := x.2.2.2.1) (n := (ofF x.1).1.1)
 have key : ∀ v ∈ [x.2.1, x.2.2.1, x.2.2.2.1].take (ofF x.1).1.1.toNat, cutOne (iota (i + 1)) v = (v, true) := fun v hm => by
  obtain ⟨h0, h1, _⟩ := valueF_lt (List.all_eq_true.1 hv v hm)
  exact cutOne_iota h0 (by omega)
 have hst : ∀ (k v : Int), (k < (ofF x.1).1.1 → cutOne (iota (i + 1)) v = (v, true)) → stepOk (iota (i + 1)) (ofF x.1).1.1 k v = true ∧ stepV (iota (i + 1)) (ofF x.1).1.1 k v = v := fun k v hk => by
  unfold stepOk stepV
  by_cases h : k < (ofF x.1).1.1
  ·rw [if_pos h, if_pos h, hk h]; exact ⟨rfl, rfl⟩
  ·rw [if_neg h, if_neg h]; exact ⟨rfl, rfl⟩
 obtain ⟨a0, b0⟩ := hst 0 x.2.1 fun h => key _ (m0 h)
 obtain ⟨a1, b1⟩ := hst 1 x.2.2.1 fun h => key _ (m1 h)
 obtain ⟨a2, b2⟩ := hst 2 x.2.2.2.1 fun h => key _ (m2 h)
 have hc : cutAsks x.1 = (ofF x.1).1.1 := by unfold cutAsks; rw [if_pos ht]
 exact ⟨by unfold cutInsOk; rw [hc, a0, a1, a2]; rfl, by unfold cutIns; rw [hc, b0, b1, b2]⟩
theorem cut_loop {loop : Int} (l : List EIns) (hx : ∀ (i : Nat) (x : EIns), l[i]? = some x → cutInsOk (iota (i + 1)) x = true ∧ cutIns (iota (i + 1)) x = x) : ∀ (k i : Nat) (lo : Int), l.length - i = k → i ≤ l.length →
  ∃ lo', cutLoop loop i (l.drop i) ((iota l.length).drop i) (iota i) true lo (l.take i) = some (iota l.length, true, lo', l) ∧ ((i : Int) ≤ loop → loop < (l.length : Int) → lo' = loop) ∧ (loop < (i : Int) → lo' = lo)
 | 0, i, lo, hk, hi => by
  obtain rfl : i = l.length := by omega
  rw [List.drop_eq_nil_of_le (Nat.le_refl _), List.take_of_length_le (Nat.le_refl _)]
  exact ⟨lo, rfl, fun h1 h2 => by omega, fun _ => rfl⟩
 | k + 1, i, lo, hk, hi => by
  have hlt : i < l.length := by omega
  have hlt2 : i < (iota l.length).length := by rw [iota_len]; exact hlt
  have ex : l[i]? = some (l.getD i tIns.dflt) := by rw [List.getD_eq_getElem?_getD, List.getElem?_eq_getElem hlt]; rfl
  obtain ⟨q1, q2⟩ := hx i _ ex
  have e1 : (iota l.length).getD i tI.dflt = (i : Int) := by
   have := iota_at (n := l.length) (v := (i : Int)) (by omega) (by omega)
   rwa [Int.toNat_natCast] at this
  have et : l.take i ++ [l.getD i tIns.dflt] = l.take (i + 1) := by rw [List.take_add_one, ex]; rfl
  have el : ((l.take i).length : Int) = (i : Int) := by rw [List.length_take, Nat.min_eq_left hi]
  obtain ⟨lo', r1, r2, r3⟩ := cut_loop (loop := loop) l hx k (i + 1) (if (i : Int) = loop then (i : Int) else lo) (by omega) (by omega)
  refine ⟨lo', ?_, fun h1 h2 => ?_, fun h1 => ?_⟩
  ·rw [dropCons (α := EIns) (Ty.dflt tIns) hlt, dropCons (α := Int) (Ty.dflt tI) hlt2, cutLoop, if_pos e1, el, iota_succ, q1, q2, et]
   exact r1
  ·by_cases h : (i : Int) = loop
   ·have := r3 (by omega)
    rw [if_pos h] at this
    omega
   ·exact r2 (by omega) h2
  ·have := r3 (by omega)
   rw [if_neg (by omega)] at this
   exact this
theorem cut_all {p : EProg} {t : ETrace} (h : CheckOk p t) : cutF t (iota t.2.2.2.1.length) = (t, 0) := by
 have hx : ∀ (i : Nat) (x : EIns), t.2.2.2.1[i]? = some x → cutInsOk (iota (i + 1)) x = true ∧ cutIns (iota (i + 1)) x = x := fun i x hi => by
  obtain ⟨h1, h2⟩ := h.ins i x hi
  exact cut_ins h1 h2
 obtain ⟨lo', r1, r2, _⟩ := cut_loop (loop := t.2.2.1) t.2.2.2.1 hx _ 0 0 rfl (Nat.zero_le _)
 have hl : loopAt t lo' t.2.2.2.1.length = t.2.2.1 := by
  have g0 := h.loop0
  have g1 := h.loop1
  unfold loopAt
  by_cases h1 : t.2.2.1 ≤ 0
  ·rw [if_pos h1]; omega
  ·rw [if_neg h1]
   by_cases h2 : (t.2.2.2.1.length : Int) ≤ t.2.2.1
   ·rw [if_pos h2]; omega
   ·rw [if_neg h2]; exact r2 (by omega) (by omega)
 have hr1 : cutLoop t.2.2.1 0 t.2.2.2.1 (iota t.2.2.2.1.length) [] true 0 [] = some (iota t.2.2.2.1.length, true, lo', t.2.2.2.1) := r1
 have hex : t.2.2.2.2.1.all (cutExitOk (iota t.2.2.2.1.length)) = true ∧ t.2.2.2.2.1.map (cutExit (iota t.2.2.2.1.length)) = t.2.2.2.2.1 := by
  refine ⟨List.all_eq_true.2 fun x hx => (cut_exit (c := chkOf p t) (h.exits x hx)).1, ?_⟩
  conv => rhs; rw [← List.map_id t.2.2.2.2.1]
  exact List.map_congr_left fun x hx => (cut_exit (c := chkOf p t) (h.exits x hx)).2
 have htu : cutExitOk (iota t.2.2.2.1.length) t.2.2.2.2.2.1 = true ∧ cutExit (iota t.2.2.2.1.length) t.2.2.2.2.2.1 = t.2.2.2.2.2.1 := by
  rcases Int.lt_or_eq_of_le h.loop0 with hl | hl
  ·exact cut_exit (c := chkOf p t) (h.turn1 hl).2
  ·rw [bareF_iff.1 (h.turn0 hl.symm)]; exact ⟨rfl, rfl⟩
 have hba : cutExitOk (iota t.2.2.2.1.length) t.2.2.2.2.2.2 = true ∧ cutExit (iota t.2.2.2.1.length) t.2.2.2.2.2.2 = t.2.2.2.2.2.2 := cut_exit (c := chkOf p t) h.back.2
 unfold cutF
 rw [if_pos (iota_len _), hr1]
 show cutEnd t (iota t.2.2.2.1.length) true (loopAt t lo' t.2.2.2.1.length) t.2.2.2.1 = (t, 0)
 rw [hl]
 unfold cutEnd endF
 rw [List.drop_zero, hex.1, htu.1, hba.1, hex.2, htu.2, hba.2, List.nil_append]
 rfl
theorem cutLoop_len {loop : Int} : ∀ {xs : List EIns} {i : Nat} {ns at_ : List Int} {f : Bool} {lo : Int} {ins : List EIns} {r : List Int × Bool × Int × List EIns}, cutLoop loop i xs ns at_ f lo ins = some r → r.2.2.2.length ≤ ins.length + xs.length
 | [], i, ns, at_, f, lo, ins, r, h => by
  unfold cutLoop at h
  injection h with h
  rw [← h]
  exact Nat.le_add_right _ _
 | x :: xs, i, [], at_, f, lo, ins, r, h => by
  unfold cutLoop at h
  injection h with h
  rw [← h]
  exact Nat.le_add_right _ _
 | x :: xs, i, n :: ns, at_, f, lo, ins, r, h => by
  rw [cutLoop] at h
  rw [List.length_cons]
  split at h
  ·have := cutLoop_len h
   rw [List.length_append, List.length_singleton] at this
   omega
  ·split at h
   ·have := cutLoop_len h; omega
   ·split at h
    ·split at h
     ·have := cutLoop_len h; omega
     ·cases h
    ·cases h
theorem cut_any (t : ETrace) (to : List Int) : ((cutF t to).2 = 0 ∧ (cutF t to).1.2.2.2.1.length ≤ t.2.2.2.1.length) ∨ ((cutF t to).2 = 3 ∧ (cutF t to).1.2.2.2.1.length = 0) := by
 unfold cutF
 split
 ·cases h : cutLoop t.2.2.1 0 t.2.2.2.1 to [] true 0 [] with
  | none => exact .inr ⟨rfl, rfl⟩
  | some r =>
   have hl := cutLoop_len h
   unfold cutThen cutEnd endF
   simp only
   split
   ·exact .inl ⟨rfl, by simpa using hl⟩
   ·exact .inr ⟨rfl, rfl⟩
 ·exact .inr ⟨rfl, rfl⟩
theorem cutNone_all {p : EProg} {t : ETrace} {i : Nat} {l : List Int} (hc : CheckOk p t) (h0 : ¬ ((i : Int) < (t.2.2.2.1.length : Int))) (hi : i ≤ t.2.2.2.1.length) (ha : l = iota i) : cutF t l = (t, 0) := by
 obtain rfl : i = t.2.2.2.1.length := by omega
 rw [ha]
 exact cut_all hc
end Go.Proofs.YtefkifdhjabdiaaDoor
