/- What the laws' texts lean on, part 6: lemmas and the contracts of functions. No condition. -/
import Derived.Test.YtefkifdhjabdiaaDoorF2
import Derived.Test.YtefkifdhjabdiaaDoorF4
namespace Go.Proofs.YtefkifdhjabdiaaDoor
set_option maxHeartbeats 4000000
set_option linter.unusedVariables false
set_option linter.unusedSimpArgs false
set_option maxRecDepth 100000
noncomputable def oc_numF : Orc where
  pure := fun f args => match f, args with
    | _, _ => none
  heap := fun _ _ _ => none
def numF_lv : LV := ⟨([]), []⟩
noncomputable def numF_T (n : Int) : Tree :=
  .ret (.agg [.int .i64 2, .int .i64 n]) [.cells 44 [.int .i64 2, .int .i64 n]]
theorem numF_T_ok (n : Int) : aRun Tryd.prog oc_numF Tryd.f135 numF_lv 3000 [.code (bodyOf Tryd.f135)] ([.c (.int .i64 n)] ++ List.replicate (Func.ntmps Tryd.f135 - 1) .junk) [] = numF_T n := by kernel_rfl
theorem numF_fun (n : Int) : AFun Tryd.prog 135 [.c (.int .i64 n)] (.agg (Ty.enc tVal ((((2 : Int), n) : EVal)))) :=
  AFun.of oc_numF numF_lv 3000 Tryd.func135 mixed rfl (by decide) (Nat.le_of_ble_eq_true rfl) _ (numF_T_ok n) fun hF => by
    unfold numF_T
    exact g_rt rfl rfl (by exact leAV.refl _)

noncomputable def oc_trF : Orc where
  pure := fun f args => match f, args with
    | _, _ => none
  heap := fun _ _ _ => none
def trF_lv : LV := ⟨([]), []⟩
noncomputable def trF_T (b : Bool) : Tree :=
  .ite (b)
  (.ret (.agg [.int .i64 1, .int .i64 1]) [.cells 44 [.int .i64 1, .int .i64 1], .cells 44 [.int .i64 1, .int .i64 1]])
  (.ret (.agg [.int .i64 1, .int .i64 0]) [.cells 44 [.int .i64 1, .int .i64 0], .cells 44 [.int .i64 1, .int .i64 0]])
theorem trF_T_ok (b : Bool) : aRun Tryd.prog oc_trF Tryd.f154 trF_lv 3000 [.code (bodyOf Tryd.f154)] ([.c (.bool b)] ++ List.replicate (Func.ntmps Tryd.f154 - 1) .junk) [] = trF_T b := by kernel_rfl
theorem trF_fun (b : Bool) : AFun Tryd.prog 154 [.c (.bool b)] (.agg (Ty.enc tVal (truthV b))) :=
  AFun.of oc_trF trF_lv 3000 Tryd.func154 mixed rfl (by decide) (Nat.le_of_ble_eq_true rfl) _ (trF_T_ok b) fun hF => by
    unfold trF_T
    refine g_ite (fun h0 => ?_) (fun h0 => ?_)
    · exact g_rt rfl rfl (by simp only [truthV, h0, if_true, if_false, reduceIte, Int.reduceEq, reduceCtorEq, and_true, true_and, and_false, false_and, Bool.false_eq_true]; exact leAV.refl _)
    · exact g_rt rfl rfl (by simp only [truthV, h0, if_true, if_false, reduceIte, Int.reduceEq, reduceCtorEq, and_true, true_and, and_false, false_and, Bool.false_eq_true]; exact leAV.refl _)

def holdsV (x : EIns) (v : EVal) : Bool := if x.1 = 4 then decide (v.1 = x.2.2.2.2.1) else if x.1 = 5 then (truthyV v == decide (x.2.2.2.2.1 = 1)) else (decide (v.1 = x.2.2.2.2.2.2.1) && (decide (v.2 = x.2.2.2.2.2.2.2) && true))
noncomputable def oc_holdsV : Orc where
  pure := fun f args => match f, args with
    | 70, [a0] => match dA tVal a0 with
      | some x0 => some (.c (.bool (truthyV x0)))
      | _ => none
    | _, _ => none
  heap := fun _ _ _ => none
def holdsV_lv : LV := ⟨([]), []⟩
noncomputable def holdsV_T (x : EIns) (v : EVal) : Tree :=
  .ite (decide (x.1 = 4))
  (.ret (.c (.bool (decide (v.1 = x.2.2.2.2.1)))) [.cells 46 (Ty.enc tIns x), .cells 44 (Ty.enc tVal v)])
  (.ite (decide (x.1 = 5))
   (.call 70 [.agg (Ty.enc tVal v)] false (.c (.bool (truthyV v))) <|
    .ret (.c (.bool ((truthyV v) == (decide (x.2.2.2.2.1 = 1))))) [.cells 46 (Ty.enc tIns x), .cells 44 (Ty.enc tVal v)])
   (.ret (.c (.bool (decide (v.1 = x.2.2.2.2.2.2.1) && (decide (v.2 = x.2.2.2.2.2.2.2) && true)))) [.cells 46 (Ty.enc tIns x), .cells 44 (Ty.enc tVal v)]))
theorem holdsV_T_ok (x : EIns) (v : EVal) : aRun Tryd.prog oc_holdsV Tryd.f105 holdsV_lv 3000 [.code (bodyOf Tryd.f105)] ([.agg (tIns.enc x), .agg (tVal.enc v)] ++ List.replicate (Func.ntmps Tryd.f105 - 2) .junk) [] = holdsV_T x v := by kernel_rfl
theorem holdsV_fun (x : EIns) (v : EVal) : AFun Tryd.prog 105 [.agg (tIns.enc x), .agg (tVal.enc v)] (.c (.bool (holdsV x v))) :=
  AFun.of oc_holdsV holdsV_lv 3000 Tryd.func105 mixed rfl (by decide) (Nat.le_of_ble_eq_true rfl) _ (holdsV_T_ok x v) fun hF => by
    unfold holdsV_T
    refine g_iteD (fun h0 => ?_) (fun h0 => ?_)
    · exact g_retb (by simp only [holdsV, h0, if_true, if_false, reduceIte, Int.reduceEq, Int.reduceNeg, reduceCtorEq, and_true, true_and, and_false, false_and, and_self, Bool.false_eq_true])
    · refine g_iteD (fun h1 => ?_) (fun h1 => ?_)
      · refine g_call (truthy_fun v) (fun h => nomatch h) ?_
        exact g_retb (by simp only [holdsV, h0, h1, if_true, if_false, reduceIte, Int.reduceEq, Int.reduceNeg, reduceCtorEq, and_true, true_and, and_false, false_and, and_self, Bool.false_eq_true])
      · exact g_retb (by simp only [holdsV, h0, h1, if_true, if_false, reduceIte, Int.reduceEq, Int.reduceNeg, reduceCtorEq, and_true, true_and, and_false, false_and, and_self, Bool.false_eq_true])

abbrev fldC (t : ETrace) (f1 f2 f3 : Int) (k : Nat) (ex : List EExit) (tu ba : EExit) (n : Nat) : List CV := [.int .i64 t.1, .int .i64 t.2.1, .int .i64 t.2.2.1, .ro tIns t.2.2.2.1, .ro tExit t.2.2.2.2.1, .int .i64 t.2.2.2.2.2.1.1, .int .i64 t.2.2.2.2.2.1.2.1, .ro tVal t.2.2.2.2.2.1.2.2.1, .ro tMake t.2.2.2.2.2.1.2.2.2, .int .i64 t.2.2.2.2.2.2.1, .int .i64 t.2.2.2.2.2.2.2.1, .ro tVal t.2.2.2.2.2.2.2.2.1, .ro tMake t.2.2.2.2.2.2.2.2.2, .int .i64 f1, .int .i64 f2, .int .i64 f3, .osl 1 8 k, .ro tExit ex, .int .i64 tu.1, .int .i64 tu.2.1, .ro tVal tu.2.2.1, .ro tMake tu.2.2.2, .int .i64 ba.1, .int .i64 ba.2.1, .ro tVal ba.2.2.1, .ro tMake ba.2.2.2, .osl 2 1 n]
def constK (ins : List EIns) (v : Int) : EVal := (ins.getD (Int.toNat v) tIns.dflt).2.2.2.2.2.2
def constB (ins : List EIns) (v : Int) : Bool := decide ((ins.getD (Int.toNat v) tIns.dflt).1 = 2)
def constI (v : EVal) : EIns := (2, -1, -1, -1, 0, -1, v)
def isV (ins : List EIns) (v : Int) (c : EVal) : Bool := if constB ins v = true then (decide ((constK ins v).1 = c.1) && (decide ((constK ins v).2 = c.2) && true)) else false
def reckR (ins : List EIns) (x : EIns) : Option (EVal × Int) := if constB ins x.2.1 = true then (if x.1 = 7 then (if constB ins x.2.2.1 = true then some (binaryV x.2.2.2.2.1 (constK ins x.2.1) (constK ins x.2.2.1)) else none) else some (unaryV x.2.2.2.2.1 (constK ins x.2.1))) else none
def reckI (ins : List EIns) (i : Int) (x : EIns) : List EIns := match reckR ins x with
  | some r => if r.2 < 0 then ins.set (Int.toNat i) (constI r.1) else ins
  | none => ins
def reckB (ins : List EIns) (x : EIns) : Bool := match reckR ins x with
  | some r => decide (r.2 < 0)
  | none => false
noncomputable def oc_const : Orc where
  pure := fun f args => match f, args with
    | _, _ => none
  heap := fun _ _ _ => none
def const_lv : LV := ⟨([]), []⟩
noncomputable def const_T (t : ETrace) (f1 : Int) (f2 : Int) (f3 : Int) (k : Nat) (ex : List EExit) (tu : EExit) (ba : EExit) (n : Nat) (ins : List EIns) (to : List Int) (v : Int) : Tree :=
  .need ((0 : Int) ≤ v ∧ (v : Int) < ((k : Nat) : Int)) <|
  .need ((Int.toNat v) < ins.length) <|
  .need ((0 : Int) ≤ v ∧ (v : Int) < ((k : Nat) : Int)) <|
  .need ((Int.toNat v) < ins.length) <|
  .ret (.tup [.agg [.int .i64 (ins.getD (Int.toNat v) tIns.dflt).2.2.2.2.2.2.1, .int .i64 (ins.getD (Int.toNat v) tIns.dflt).2.2.2.2.2.2.2], .c (.bool (decide ((ins.getD (Int.toNat v) tIns.dflt).1 = 2)))]) [.cells 136 (fldC t f1 f2 f3 k ex tu ba n), .ovec 46 tIns ins, .ovec 3 tI to, .cells 44 [.int .i64 (ins.getD (Int.toNat v) tIns.dflt).2.2.2.2.2.2.1, .int .i64 (ins.getD (Int.toNat v) tIns.dflt).2.2.2.2.2.2.2]]
theorem const_T_ok (t : ETrace) (f1 : Int) (f2 : Int) (f3 : Int) (k : Nat) (ex : List EExit) (tu : EExit) (ba : EExit) (n : Nat) (ins : List EIns) (to : List Int) (v : Int) : aRun Tryd.prog oc_const Tryd.f104 const_lv 3000 [.code (bodyOf Tryd.f104)] ([.c (.ptr 0 0 0 0), .c (.int .i64 v)] ++ List.replicate (Func.ntmps Tryd.f104 - 2) .junk) [.cells 136 (fldC t f1 f2 f3 k ex tu ba n), .ovec 46 tIns ins, .ovec 3 tI to] = const_T t f1 f2 f3 k ex tu ba n ins to v := by kernel_rfl
theorem const_fun (t : ETrace) (f1 : Int) (f2 : Int) (f3 : Int) (k : Nat) (ex : List EExit) (tu : EExit) (ba : EExit) (n : Nat) (ins : List EIns) (to : List Int) (v : Int) (hv : 0 ≤ v ∧ v < (k : Int)) (hk : ins.length = k) : AFunH Tryd.prog 104 [.c (.ptr 0 0 0 0), .c (.int .i64 v)] [.cells 136 (fldC t f1 f2 f3 k ex tu ba n), .ovec 46 tIns ins, .ovec 3 tI to] (.tup [.agg (Ty.enc tVal (constK ins v)), .c (.bool (constB ins v))]) [.cells 136 (fldC t f1 f2 f3 k ex tu ba n), .ovec 46 tIns ins, .ovec 3 tI to] (List.range 3) :=
  AFunH.ofL oc_const const_lv 3000 Tryd.func104 mixed rfl (by decide) (Nat.le_of_ble_eq_true rfl) rfl rfl (Nat.le_of_ble_eq_true rfl) _ (const_T_ok t f1 f2 f3 k ex tu ba n ins to v) fun hF => by
    unfold const_T
    refine g_need (by omega) ?_
    refine g_need (by omega) ?_
    refine g_need (by omega) ?_
    refine g_need (by omega) ?_
    refine g_fin ?_
    exact g_end [0, 1, 2] (show ∀ k, k < 3 → ([0, 1, 2] : List Nat)[k]? = some k by decide) (by decide) (⟨⟨⟨rfl, (show ((ins.getD (Int.toNat v) tIns.dflt).2.2.2.2.2.2.1 : Int) = (constK ins v).1 from by rfl)⟩, ⟨rfl, (show ((ins.getD (Int.toNat v) tIns.dflt).2.2.2.2.2.2.2 : Int) = (constK ins v).2 from by rfl)⟩, trivial⟩, (show (decide ((ins.getD (Int.toNat v) tIns.dflt).1 = 2) : Bool) = constB ins v from by rfl), trivial⟩) ⟨leB.refl _, leB.refl _, leB.refl _, trivial⟩

noncomputable def oc_become : Orc where
  pure := fun f args => match f, args with
    | _, _ => none
  heap := fun _ _ _ => none
def become_lv : LV := ⟨([]), []⟩
noncomputable def become_T (t : ETrace) (f1 : Int) (f2 : Int) (f3 : Int) (k : Nat) (ex : List EExit) (tu : EExit) (ba : EExit) (n : Nat) (ins : List EIns) (to : List Int) (i : Int) (v : EVal) : Tree :=
  .need ((0 : Int) ≤ i ∧ (i : Int) < ((k : Nat) : Int)) <|
  .need ((Int.toNat i) < ins.length) <|
  .ret (.tup []) [.cells 136 (fldC t f1 f2 f3 k ex tu ba n), .ovec 46 tIns (ins.set (Int.toNat i) (2, ((-1), ((-1), ((-1), (0, ((-1), v))))))), .ovec 3 tI to, .cells 44 (Ty.enc tVal v)]
theorem become_T_ok (t : ETrace) (f1 : Int) (f2 : Int) (f3 : Int) (k : Nat) (ex : List EExit) (tu : EExit) (ba : EExit) (n : Nat) (ins : List EIns) (to : List Int) (i : Int) (v : EVal) : aRun Tryd.prog oc_become Tryd.f138 become_lv 3000 [.code (bodyOf Tryd.f138)] ([.c (.ptr 0 0 0 0), .c (.int .i64 i), .agg (tVal.enc v)] ++ List.replicate (Func.ntmps Tryd.f138 - 3) .junk) [.cells 136 (fldC t f1 f2 f3 k ex tu ba n), .ovec 46 tIns ins, .ovec 3 tI to] = become_T t f1 f2 f3 k ex tu ba n ins to i v := by kernel_rfl
theorem become_fun (t : ETrace) (f1 : Int) (f2 : Int) (f3 : Int) (k : Nat) (ex : List EExit) (tu : EExit) (ba : EExit) (n : Nat) (ins : List EIns) (to : List Int) (i : Int) (v : EVal) (hv : 0 ≤ i ∧ i < (k : Int)) (hk : ins.length = k) : AFunH Tryd.prog 138 [.c (.ptr 0 0 0 0), .c (.int .i64 i), .agg (tVal.enc v)] [.cells 136 (fldC t f1 f2 f3 k ex tu ba n), .ovec 46 tIns ins, .ovec 3 tI to] (.tup []) [.cells 136 (fldC t f1 f2 f3 k ex tu ba n), .ovec 46 tIns (ins.set (Int.toNat i) (constI v)), .ovec 3 tI to] (List.range 3) :=
  AFunH.ofL oc_become become_lv 3000 Tryd.func138 mixed rfl (by decide) (Nat.le_of_ble_eq_true rfl) rfl rfl (Nat.le_of_ble_eq_true rfl) _ (become_T_ok t f1 f2 f3 k ex tu ba n ins to i v) fun hF => by
    unfold become_T
    refine g_need (by omega) ?_
    refine g_need (by omega) ?_
    refine g_fin ?_
    exact g_end [0, 1, 2] (show ∀ k, k < 3 → ([0, 1, 2] : List Nat)[k]? = some k by decide) (by decide) (leAV.refl _) ⟨leB.refl _, ⟨rfl, ⟨rfl, (show ((ins.set (Int.toNat i) (2, ((-1), ((-1), ((-1), (0, ((-1), v)))))))) = ins.set (Int.toNat i) (constI v) from by rfl)⟩⟩, leB.refl _, trivial⟩

noncomputable def oc_isv : Orc where
  pure := fun f args => match f, args with
    | _, _ => none
  heap := fun f args H => match f, args with
    | 104, [.one (.c (.ptr b0 0 0 0)), a1] => match cellsAs 136 H[b0]? with
      | some [c0_0_0, c0_0_1, c0_0_2, c0_0_3, c0_0_4, c0_0_5, c0_0_6, c0_0_7, c0_0_8, c0_0_9, c0_0_10, c0_0_11, c0_0_12, c0_1, c0_2, c0_3, .osl b1 8 n0_4, c0_5, c0_6_0, c0_6_1, c0_6_2, c0_6_3, c0_7_0, c0_7_1, c0_7_2, c0_7_3, .osl b2 1 n0_8] => (match dA tI a1, dCs tTrace [c0_0_0, c0_0_1, c0_0_2, c0_0_3, c0_0_4, c0_0_5, c0_0_6, c0_0_7, c0_0_8, c0_0_9, c0_0_10, c0_0_11, c0_0_12], dC tI c0_1, dC tI c0_2, dC tI c0_3, dC (.slice tExit) c0_5, dCs tExit [c0_6_0, c0_6_1, c0_6_2, c0_6_3], dCs tExit [c0_7_0, c0_7_1, c0_7_2, c0_7_3], ovecAs 46 tIns H[b1]?, ovecAs 3 tI H[b2]? with
        | some x1, some y0_0, some y0_1, some y0_2, some y0_3, some y0_5, some y0_6, some y0_7, some y1, some y2 => hres [b0, b1, b2] H (.tup [.agg (Ty.enc tVal (constK y1 x1)), .c (.bool (constB y1 x1))]) [.cells 136 (fldC y0_0 y0_1 y0_2 y0_3 n0_4 y0_5 y0_6 y0_7 n0_8), .ovec 46 tIns y1, .ovec 3 tI y2]
        | _, _, _, _, _, _, _, _, _, _ => none)
      | _ => none
    | _, _ => none
def isv_lv : LV := ⟨([]), []⟩
noncomputable def isv_T (t : ETrace) (f1 : Int) (f2 : Int) (f3 : Int) (k : Nat) (ex : List EExit) (tu : EExit) (ba : EExit) (n : Nat) (ins : List EIns) (to : List Int) (v : Int) (c : EVal) : Tree :=
  .callH 104 [.c (.ptr 0 0 0 0), .c (.int .i64 v)] [.cells 136 (fldC t f1 f2 f3 k ex tu ba n), .ovec 46 tIns ins, .ovec 3 tI to, .cells 44 (Ty.enc tVal c)] (.tup [.agg [.int .i64 (constK ins v).1, .int .i64 (constK ins v).2], .c (.bool (constB ins v))]) [.cells 136 (fldC t f1 f2 f3 k ex tu ba n), .ovec 46 tIns ins, .ovec 3 tI to, .cells 44 (Ty.enc tVal c)] [0, 1, 2] <|
  .ite (constB ins v)
  (.ret (.c (.bool (decide ((constK ins v).1 = c.1) && (decide ((constK ins v).2 = c.2) && true)))) [.cells 136 (fldC t f1 f2 f3 k ex tu ba n), .ovec 46 tIns ins, .ovec 3 tI to, .cells 44 (Ty.enc tVal c), .cells 44 [.int .i64 (constK ins v).1, .int .i64 (constK ins v).2]])
  (.ret (.c (.lit false)) [.cells 136 (fldC t f1 f2 f3 k ex tu ba n), .ovec 46 tIns ins, .ovec 3 tI to, .cells 44 (Ty.enc tVal c), .cells 44 [.int .i64 (constK ins v).1, .int .i64 (constK ins v).2]])
theorem isv_T_ok (t : ETrace) (f1 : Int) (f2 : Int) (f3 : Int) (k : Nat) (ex : List EExit) (tu : EExit) (ba : EExit) (n : Nat) (ins : List EIns) (to : List Int) (v : Int) (c : EVal) : aRun Tryd.prog oc_isv Tryd.f136 isv_lv 3000 [.code (bodyOf Tryd.f136)] ([.c (.ptr 0 0 0 0), .c (.int .i64 v), .agg (tVal.enc c)] ++ List.replicate (Func.ntmps Tryd.f136 - 3) .junk) [.cells 136 (fldC t f1 f2 f3 k ex tu ba n), .ovec 46 tIns ins, .ovec 3 tI to] = isv_T t f1 f2 f3 k ex tu ba n ins to v c := by kernel_rfl
theorem isv_fun (t : ETrace) (f1 : Int) (f2 : Int) (f3 : Int) (k : Nat) (ex : List EExit) (tu : EExit) (ba : EExit) (n : Nat) (ins : List EIns) (to : List Int) (v : Int) (c : EVal) (hv : 0 ≤ v ∧ v < (k : Int)) (hk : ins.length = k) : AFunH Tryd.prog 136 [.c (.ptr 0 0 0 0), .c (.int .i64 v), .agg (tVal.enc c)] [.cells 136 (fldC t f1 f2 f3 k ex tu ba n), .ovec 46 tIns ins, .ovec 3 tI to] (.c (.bool (isV ins v c))) [.cells 136 (fldC t f1 f2 f3 k ex tu ba n), .ovec 46 tIns ins, .ovec 3 tI to] (List.range 3) :=
  AFunH.ofL oc_isv isv_lv 3000 Tryd.func136 mixed rfl (by decide) (Nat.le_of_ble_eq_true rfl) rfl rfl (Nat.le_of_ble_eq_true rfl) _ (isv_T_ok t f1 f2 f3 k ex tu ba n ins to v c) fun hF => by
    unfold isv_T
    refine g_callH (AFunH.frameB [0, 1, 2] (const_fun t f1 f2 f3 k ex tu ba n ins to v (by assumption) hk) rfl rfl rfl rfl rfl rfl rfl) ?_
    refine g_ite (fun h0 => ?_) (fun h0 => ?_)
    · refine g_fin ?_
      exact g_end [0, 1, 2] (show ∀ k, k < 3 → ([0, 1, 2] : List Nat)[k]? = some k by decide) (by decide) ((show ((decide ((constK ins v).1 = c.1) && (decide ((constK ins v).2 = c.2) && true)) : Bool) = isV ins v c from by simp only [isV, h0, if_true, if_false, Bool.false_eq_true])) ⟨leB.refl _, leB.refl _, leB.refl _, trivial⟩
    · refine g_fin ?_
      exact g_end [0, 1, 2] (show ∀ k, k < 3 → ([0, 1, 2] : List Nat)[k]? = some k by decide) (by decide) ((show (false : Bool) = isV ins v c from by simp only [isV, h0, if_true, if_false, Bool.false_eq_true])) ⟨leB.refl _, leB.refl _, leB.refl _, trivial⟩

noncomputable def oc_fwhole : Orc where
  pure := fun f args => match f, args with
    | 21, [a0, a1, a2] => match dA tTrace a0, dA tI a1, dA tI a2 with
      | some x0, some x1, some x2 => some (.c (.int .i64 (kindF x0 x1 x2)))
      | _, _, _ => none
    | _, _ => none
  heap := fun _ _ _ => none
def fwhole_lv : LV := ⟨([]), []⟩
noncomputable def fwhole_T (t : ETrace) (f1 : Int) (f2 : Int) (f3 : Int) (k : Nat) (ex : List EExit) (tu : EExit) (ba : EExit) (n : Nat) (ins : List EIns) (to : List Int) (v : Int) (a : Int) : Tree :=
  .call 21 [.agg (Ty.enc tTrace t), .c (.int .i64 v), .c (.int .i64 a)] false (.c (.int .i64 (kindF t v a))) <|
  .ret (.c (.bool (decide (kindF t v a = 2)))) [.cells 136 (fldC t f1 f2 f3 k ex tu ba n), .ovec 46 tIns ins, .ovec 3 tI to]
theorem fwhole_T_ok (t : ETrace) (f1 : Int) (f2 : Int) (f3 : Int) (k : Nat) (ex : List EExit) (tu : EExit) (ba : EExit) (n : Nat) (ins : List EIns) (to : List Int) (v : Int) (a : Int) : aRun Tryd.prog oc_fwhole Tryd.f137 fwhole_lv 3000 [.code (bodyOf Tryd.f137)] ([.c (.ptr 0 0 0 0), .c (.int .i64 v), .c (.int .i64 a)] ++ List.replicate (Func.ntmps Tryd.f137 - 3) .junk) [.cells 136 (fldC t f1 f2 f3 k ex tu ba n), .ovec 46 tIns ins, .ovec 3 tI to] = fwhole_T t f1 f2 f3 k ex tu ba n ins to v a := by kernel_rfl
theorem fwhole_fun (t : ETrace) (f1 : Int) (f2 : Int) (f3 : Int) (k : Nat) (ex : List EExit) (tu : EExit) (ba : EExit) (n : Nat) (ins : List EIns) (to : List Int) (v : Int) (a : Int) : AFunH Tryd.prog 137 [.c (.ptr 0 0 0 0), .c (.int .i64 v), .c (.int .i64 a)] [.cells 136 (fldC t f1 f2 f3 k ex tu ba n), .ovec 46 tIns ins, .ovec 3 tI to] (.c (.bool (decide (kindF t v a = 2)))) [.cells 136 (fldC t f1 f2 f3 k ex tu ba n), .ovec 46 tIns ins, .ovec 3 tI to] (List.range 3) :=
  AFunH.ofL oc_fwhole fwhole_lv 3000 Tryd.func137 mixed rfl (by decide) (Nat.le_of_ble_eq_true rfl) rfl rfl (Nat.le_of_ble_eq_true rfl) _ (fwhole_T_ok t f1 f2 f3 k ex tu ba n ins to v a) fun hF => by
    unfold fwhole_T
    refine g_call (kind_fun t v a) (fun h => nomatch h) ?_
    refine g_fin ?_
    exact g_end [0, 1, 2] (show ∀ k, k < 3 → ([0, 1, 2] : List Nat)[k]? = some k by decide) (by decide) (leAV.refl _) ⟨leB.refl _, leB.refl _, leB.refl _, trivial⟩

noncomputable def oc_reck : Orc where
  pure := fun f args => match f, args with
    | 34, [a0, a1] => match dA tI a0, dA tVal a1 with
      | some x0, some x1 => some (.tup [.agg (Ty.enc tVal ((unaryV x0 x1).1)), .c (.int .i64 ((unaryV x0 x1).2))])
      | _, _ => none
    | 35, [a0, a1, a2] => match dA tI a0, dA tVal a1, dA tVal a2 with
      | some x0, some x1, some x2 => some (.tup [.agg (Ty.enc tVal ((binaryV x0 x1 x2).1)), .c (.int .i64 ((binaryV x0 x1 x2).2))])
      | _, _, _ => none
    | _, _ => none
  heap := fun f args H => match f, args with
    | 104, [.one (.c (.ptr b0 0 0 0)), a1] => match cellsAs 136 H[b0]? with
      | some [c0_0_0, c0_0_1, c0_0_2, c0_0_3, c0_0_4, c0_0_5, c0_0_6, c0_0_7, c0_0_8, c0_0_9, c0_0_10, c0_0_11, c0_0_12, c0_1, c0_2, c0_3, .osl b1 8 n0_4, c0_5, c0_6_0, c0_6_1, c0_6_2, c0_6_3, c0_7_0, c0_7_1, c0_7_2, c0_7_3, .osl b2 1 n0_8] => (match dA tI a1, dCs tTrace [c0_0_0, c0_0_1, c0_0_2, c0_0_3, c0_0_4, c0_0_5, c0_0_6, c0_0_7, c0_0_8, c0_0_9, c0_0_10, c0_0_11, c0_0_12], dC tI c0_1, dC tI c0_2, dC tI c0_3, dC (.slice tExit) c0_5, dCs tExit [c0_6_0, c0_6_1, c0_6_2, c0_6_3], dCs tExit [c0_7_0, c0_7_1, c0_7_2, c0_7_3], ovecAs 46 tIns H[b1]?, ovecAs 3 tI H[b2]? with
        | some x1, some y0_0, some y0_1, some y0_2, some y0_3, some y0_5, some y0_6, some y0_7, some y1, some y2 => hres [b0, b1, b2] H (.tup [.agg (Ty.enc tVal (constK y1 x1)), .c (.bool (constB y1 x1))]) [.cells 136 (fldC y0_0 y0_1 y0_2 y0_3 n0_4 y0_5 y0_6 y0_7 n0_8), .ovec 46 tIns y1, .ovec 3 tI y2]
        | _, _, _, _, _, _, _, _, _, _ => none)
      | _ => none
    | 138, [.one (.c (.ptr b0 0 0 0)), a1, a2] => match cellsAs 136 H[b0]? with
      | some [c0_0_0, c0_0_1, c0_0_2, c0_0_3, c0_0_4, c0_0_5, c0_0_6, c0_0_7, c0_0_8, c0_0_9, c0_0_10, c0_0_11, c0_0_12, c0_1, c0_2, c0_3, .osl b1 8 n0_4, c0_5, c0_6_0, c0_6_1, c0_6_2, c0_6_3, c0_7_0, c0_7_1, c0_7_2, c0_7_3, .osl b2 1 n0_8] => (match dA tI a1, dA tVal a2, dCs tTrace [c0_0_0, c0_0_1, c0_0_2, c0_0_3, c0_0_4, c0_0_5, c0_0_6, c0_0_7, c0_0_8, c0_0_9, c0_0_10, c0_0_11, c0_0_12], dC tI c0_1, dC tI c0_2, dC tI c0_3, dC (.slice tExit) c0_5, dCs tExit [c0_6_0, c0_6_1, c0_6_2, c0_6_3], dCs tExit [c0_7_0, c0_7_1, c0_7_2, c0_7_3], ovecAs 46 tIns H[b1]?, ovecAs 3 tI H[b2]? with
        | some x1, some x2, some y0_0, some y0_1, some y0_2, some y0_3, some y0_5, some y0_6, some y0_7, some y1, some y2 => hres [b0, b1, b2] H (.tup []) [.cells 136 (fldC y0_0 y0_1 y0_2 y0_3 n0_4 y0_5 y0_6 y0_7 n0_8), .ovec 46 tIns (y1.set (Int.toNat x1) (constI x2)), .ovec 3 tI y2]
        | _, _, _, _, _, _, _, _, _, _, _ => none)
      | _ => none
    | _, _ => none
def reck_lv : LV := ⟨([]), []⟩
abbrev bEf1 (x : EIns) (ins : List EIns) : AB := .cells 44 [.int .i64 (binaryV x.2.2.2.2.1 (constK ins x.2.1) (constK ins x.2.2.1)).1.1, .int .i64 (binaryV x.2.2.2.2.1 (constK ins x.2.1) (constK ins x.2.2.1)).1.2]
abbrev bEf4 (x : EIns) (ins : List EIns) : AB := .cells 44 [.int .i64 (unaryV x.2.2.2.2.1 (constK ins x.2.1)).1.1, .int .i64 (unaryV x.2.2.2.2.1 (constK ins x.2.1)).1.2]
abbrev bEf9 (ins : List EIns) (x : EIns) : AB := .cells 44 [.int .i64 (constK ins x.2.1).1, .int .i64 (constK ins x.2.1).2]
noncomputable def reck_T (t : ETrace) (f1 : Int) (f2 : Int) (f3 : Int) (k : Nat) (ex : List EExit) (tu : EExit) (ba : EExit) (n : Nat) (ins : List EIns) (to : List Int) (i : Int) (x : EIns) : Tree :=
  .callH 104 [.c (.ptr 0 0 0 0), .c (.int .i64 x.2.1)] [.cells 136 (fldC t f1 f2 f3 k ex tu ba n), .ovec 46 tIns ins, .ovec 3 tI to, .cells 46 (Ty.enc tIns x)] (.tup [.agg [.int .i64 (constK ins x.2.1).1, .int .i64 (constK ins x.2.1).2], .c (.bool (constB ins x.2.1))]) [.cells 136 (fldC t f1 f2 f3 k ex tu ba n), .ovec 46 tIns ins, .ovec 3 tI to, .cells 46 (Ty.enc tIns x)] [0, 1, 2] <|
  .ite ((!(constB ins x.2.1)))
  (.ret (.c (.lit false)) [.cells 136 (fldC t f1 f2 f3 k ex tu ba n), .ovec 46 tIns ins, .ovec 3 tI to, .cells 46 (Ty.enc tIns x), (bEf9 ins x)])
  (.call 34 [.c (.int .i64 x.2.2.2.2.1), .agg [.int .i64 (constK ins x.2.1).1, .int .i64 (constK ins x.2.1).2]] false (.tup [.agg [.int .i64 (unaryV x.2.2.2.2.1 (constK ins x.2.1)).1.1, .int .i64 (unaryV x.2.2.2.2.1 (constK ins x.2.1)).1.2], .c (.int .i64 (unaryV x.2.2.2.2.1 (constK ins x.2.1)).2)]) <|
   .ite (decide (x.1 = 7))
   (.callH 104 [.c (.ptr 0 0 0 0), .c (.int .i64 x.2.2.1)] [.cells 136 (fldC t f1 f2 f3 k ex tu ba n), .ovec 46 tIns ins, .ovec 3 tI to, .cells 46 (Ty.enc tIns x), (bEf9 ins x), (bEf4 x ins)] (.tup [.agg [.int .i64 (constK ins x.2.2.1).1, .int .i64 (constK ins x.2.2.1).2], .c (.bool (constB ins x.2.2.1))]) [.cells 136 (fldC t f1 f2 f3 k ex tu ba n), .ovec 46 tIns ins, .ovec 3 tI to, .cells 46 (Ty.enc tIns x), (bEf9 ins x), (bEf4 x ins)] [0, 1, 2] <|
    .ite ((!(constB ins x.2.2.1)))
    (.ret (.c (.lit false)) [.cells 136 (fldC t f1 f2 f3 k ex tu ba n), .ovec 46 tIns ins, .ovec 3 tI to, .cells 46 (Ty.enc tIns x), (bEf9 ins x), (bEf4 x ins), .cells 44 [.int .i64 (constK ins x.2.2.1).1, .int .i64 (constK ins x.2.2.1).2]])
    (.call 35 [.c (.int .i64 x.2.2.2.2.1), .agg [.int .i64 (constK ins x.2.1).1, .int .i64 (constK ins x.2.1).2], .agg [.int .i64 (constK ins x.2.2.1).1, .int .i64 (constK ins x.2.2.1).2]] false (.tup [.agg [.int .i64 (binaryV x.2.2.2.2.1 (constK ins x.2.1) (constK ins x.2.2.1)).1.1, .int .i64 (binaryV x.2.2.2.2.1 (constK ins x.2.1) (constK ins x.2.2.1)).1.2], .c (.int .i64 (binaryV x.2.2.2.2.1 (constK ins x.2.1) (constK ins x.2.2.1)).2)]) <|
     .ite (decide ((binaryV x.2.2.2.2.1 (constK ins x.2.1) (constK ins x.2.2.1)).2 < 0))
     (.callH 138 [.c (.ptr 0 0 0 0), .c (.int .i64 i), .agg [.int .i64 (binaryV x.2.2.2.2.1 (constK ins x.2.1) (constK ins x.2.2.1)).1.1, .int .i64 (binaryV x.2.2.2.2.1 (constK ins x.2.1) (constK ins x.2.2.1)).1.2]] [.cells 136 (fldC t f1 f2 f3 k ex tu ba n), .ovec 46 tIns ins, .ovec 3 tI to, .cells 46 (Ty.enc tIns x), (bEf9 ins x), (bEf1 x ins), .cells 44 [.int .i64 (constK ins x.2.2.1).1, .int .i64 (constK ins x.2.2.1).2]] (.tup []) [.cells 136 (fldC t f1 f2 f3 k ex tu ba n), .ovec 46 tIns (ins.set (Int.toNat i) (constI (binaryV x.2.2.2.2.1 (constK ins x.2.1) (constK ins x.2.2.1)).1)), .ovec 3 tI to, .cells 46 (Ty.enc tIns x), (bEf9 ins x), (bEf1 x ins), .cells 44 [.int .i64 (constK ins x.2.2.1).1, .int .i64 (constK ins x.2.2.1).2]] [0, 1, 2] <|
      .ret (.c (.bool (decide ((binaryV x.2.2.2.2.1 (constK ins x.2.1) (constK ins x.2.2.1)).2 < 0)))) [.cells 136 (fldC t f1 f2 f3 k ex tu ba n), .ovec 46 tIns (ins.set (Int.toNat i) (constI (binaryV x.2.2.2.2.1 (constK ins x.2.1) (constK ins x.2.2.1)).1)), .ovec 3 tI to, .cells 46 (Ty.enc tIns x), (bEf9 ins x), (bEf1 x ins), .cells 44 [.int .i64 (constK ins x.2.2.1).1, .int .i64 (constK ins x.2.2.1).2]])
     (.ret (.c (.bool (decide ((binaryV x.2.2.2.2.1 (constK ins x.2.1) (constK ins x.2.2.1)).2 < 0)))) [.cells 136 (fldC t f1 f2 f3 k ex tu ba n), .ovec 46 tIns ins, .ovec 3 tI to, .cells 46 (Ty.enc tIns x), (bEf9 ins x), (bEf1 x ins), .cells 44 [.int .i64 (constK ins x.2.2.1).1, .int .i64 (constK ins x.2.2.1).2]])))
   (.ite (decide ((unaryV x.2.2.2.2.1 (constK ins x.2.1)).2 < 0))
    (.callH 138 [.c (.ptr 0 0 0 0), .c (.int .i64 i), .agg [.int .i64 (unaryV x.2.2.2.2.1 (constK ins x.2.1)).1.1, .int .i64 (unaryV x.2.2.2.2.1 (constK ins x.2.1)).1.2]] [.cells 136 (fldC t f1 f2 f3 k ex tu ba n), .ovec 46 tIns ins, .ovec 3 tI to, .cells 46 (Ty.enc tIns x), (bEf9 ins x), (bEf4 x ins)] (.tup []) [.cells 136 (fldC t f1 f2 f3 k ex tu ba n), .ovec 46 tIns (ins.set (Int.toNat i) (constI (unaryV x.2.2.2.2.1 (constK ins x.2.1)).1)), .ovec 3 tI to, .cells 46 (Ty.enc tIns x), (bEf9 ins x), (bEf4 x ins)] [0, 1, 2] <|
     .ret (.c (.bool (decide ((unaryV x.2.2.2.2.1 (constK ins x.2.1)).2 < 0)))) [.cells 136 (fldC t f1 f2 f3 k ex tu ba n), .ovec 46 tIns (ins.set (Int.toNat i) (constI (unaryV x.2.2.2.2.1 (constK ins x.2.1)).1)), .ovec 3 tI to, .cells 46 (Ty.enc tIns x), (bEf9 ins x), (bEf4 x ins)])
    (.ret (.c (.bool (decide ((unaryV x.2.2.2.2.1 (constK ins x.2.1)).2 < 0)))) [.cells 136 (fldC t f1 f2 f3 k ex tu ba n), .ovec 46 tIns ins, .ovec 3 tI to, .cells 46 (Ty.enc tIns x), (bEf9 ins x), (bEf4 x ins)])))
theorem reck_T_ok (t : ETrace) (f1 : Int) (f2 : Int) (f3 : Int) (k : Nat) (ex : List EExit) (tu : EExit) (ba : EExit) (n : Nat) (ins : List EIns) (to : List Int) (i : Int) (x : EIns) : aRun Tryd.prog oc_reck Tryd.f103 reck_lv 3000 [.code (bodyOf Tryd.f103)] ([.c (.ptr 0 0 0 0), .c (.int .i64 i), .agg (tIns.enc x)] ++ List.replicate (Func.ntmps Tryd.f103 - 3) .junk) [.cells 136 (fldC t f1 f2 f3 k ex tu ba n), .ovec 46 tIns ins, .ovec 3 tI to] = reck_T t f1 f2 f3 k ex tu ba n ins to i x := by kernel_rfl
theorem reck_fun (t : ETrace) (f1 : Int) (f2 : Int) (f3 : Int) (k : Nat) (ex : List EExit) (tu : EExit) (ba : EExit) (n : Nat) (ins : List EIns) (to : List Int) (i : Int) (x : EIns) (hi : 0 ≤ i ∧ i < (k : Int)) (ha : 0 ≤ x.2.1 ∧ x.2.1 < (k : Int)) (hb : x.1 = 7 → 0 ≤ x.2.2.1 ∧ x.2.2.1 < (k : Int)) (hk : ins.length = k) : AFunH Tryd.prog 103 [.c (.ptr 0 0 0 0), .c (.int .i64 i), .agg (tIns.enc x)] [.cells 136 (fldC t f1 f2 f3 k ex tu ba n), .ovec 46 tIns ins, .ovec 3 tI to] (.c (.bool (reckB ins x))) [.cells 136 (fldC t f1 f2 f3 k ex tu ba n), .ovec 46 tIns (reckI ins i x), .ovec 3 tI to] (List.range 3) :=
  AFunH.ofL oc_reck reck_lv 3000 Tryd.func103 mixed rfl (by decide) (Nat.le_of_ble_eq_true rfl) rfl rfl (Nat.le_of_ble_eq_true rfl) _ (reck_T_ok t f1 f2 f3 k ex tu ba n ins to i x) fun hF => by
    unfold reck_T
    refine g_callH (AFunH.frameB [0, 1, 2] (const_fun t f1 f2 f3 k ex tu ba n ins to x.2.1 (by assumption) hk) rfl rfl rfl rfl rfl rfl rfl) ?_
    refine g_iteN (fun h0 => ?_) (fun h0 => ?_)
    · refine g_fin ?_
      exact g_end [0, 1, 2] (show ∀ k, k < 3 → ([0, 1, 2] : List Nat)[k]? = some k by decide) (by decide) ((show (false : Bool) = reckB ins x from by simp only [reckI, reckB, reckR, h0, if_true, if_false, Bool.false_eq_true, reduceIte])) ⟨leB.refl _, ⟨rfl, ⟨rfl, (show (ins) = reckI ins i x from by simp only [reckI, reckB, reckR, h0, if_true, if_false, Bool.false_eq_true, reduceIte])⟩⟩, leB.refl _, trivial⟩
    · refine g_call (unaryV_fun x.2.2.2.2.1 (constK ins x.2.1)) (fun h => nomatch h) ?_
      refine g_iteD (fun h1 => ?_) (fun h1 => ?_)
      · refine g_callH (AFunH.frameB [0, 1, 2] (const_fun t f1 f2 f3 k ex tu ba n ins to x.2.2.1 (by omega) hk) rfl rfl rfl rfl rfl rfl rfl) ?_
        refine g_iteN (fun h2 => ?_) (fun h2 => ?_)
        · refine g_fin ?_
          exact g_end [0, 1, 2] (show ∀ k, k < 3 → ([0, 1, 2] : List Nat)[k]? = some k by decide) (by decide) ((show (false : Bool) = reckB ins x from by simp only [reckI, reckB, reckR, h0, h1, h2, if_true, if_false, Bool.false_eq_true, reduceIte])) ⟨leB.refl _, ⟨rfl, ⟨rfl, (show (ins) = reckI ins i x from by simp only [reckI, reckB, reckR, h0, h1, h2, if_true, if_false, Bool.false_eq_true, reduceIte])⟩⟩, leB.refl _, trivial⟩
        · refine g_call (binaryV_fun x.2.2.2.2.1 (constK ins x.2.1) (constK ins x.2.2.1)) (fun h => nomatch h) ?_
          refine g_iteD (fun h3 => ?_) (fun h3 => ?_)
          · refine g_callH (AFunH.frameB [0, 1, 2] (become_fun t f1 f2 f3 k ex tu ba n ins to i (binaryV x.2.2.2.2.1 (constK ins x.2.1) (constK ins x.2.2.1)).1 (by assumption) hk) rfl rfl rfl rfl rfl rfl rfl) ?_
            refine g_fin ?_
            exact g_end [0, 1, 2] (show ∀ k, k < 3 → ([0, 1, 2] : List Nat)[k]? = some k by decide) (by decide) ((show (decide ((binaryV x.2.2.2.2.1 (constK ins x.2.1) (constK ins x.2.2.1)).2 < 0) : Bool) = reckB ins x from by simp only [reckI, reckB, reckR, h0, h1, h2, h3, if_true, if_false, Bool.false_eq_true, reduceIte])) ⟨leB.refl _, ⟨rfl, ⟨rfl, (show (ins.set (Int.toNat i) (constI (binaryV x.2.2.2.2.1 (constK ins x.2.1) (constK ins x.2.2.1)).1)) = reckI ins i x from by simp only [reckI, reckB, reckR, h0, h1, h2, h3, if_true, if_false, Bool.false_eq_true, reduceIte])⟩⟩, leB.refl _, trivial⟩
          · refine g_fin ?_
            exact g_end [0, 1, 2] (show ∀ k, k < 3 → ([0, 1, 2] : List Nat)[k]? = some k by decide) (by decide) ((show (decide ((binaryV x.2.2.2.2.1 (constK ins x.2.1) (constK ins x.2.2.1)).2 < 0) : Bool) = reckB ins x from by simp only [reckI, reckB, reckR, h0, h1, h2, h3, if_true, if_false, Bool.false_eq_true, reduceIte])) ⟨leB.refl _, ⟨rfl, ⟨rfl, (show (ins) = reckI ins i x from by simp only [reckI, reckB, reckR, h0, h1, h2, h3, if_true, if_false, Bool.false_eq_true, reduceIte])⟩⟩, leB.refl _, trivial⟩
      · refine g_iteD (fun h2 => ?_) (fun h2 => ?_)
        · refine g_callH (AFunH.frameB [0, 1, 2] (become_fun t f1 f2 f3 k ex tu ba n ins to i (unaryV x.2.2.2.2.1 (constK ins x.2.1)).1 (by assumption) hk) rfl rfl rfl rfl rfl rfl rfl) ?_
          refine g_fin ?_
          exact g_end [0, 1, 2] (show ∀ k, k < 3 → ([0, 1, 2] : List Nat)[k]? = some k by decide) (by decide) ((show (decide ((unaryV x.2.2.2.2.1 (constK ins x.2.1)).2 < 0) : Bool) = reckB ins x from by simp only [reckI, reckB, reckR, h0, h1, h2, if_true, if_false, Bool.false_eq_true, reduceIte])) ⟨leB.refl _, ⟨rfl, ⟨rfl, (show (ins.set (Int.toNat i) (constI (unaryV x.2.2.2.2.1 (constK ins x.2.1)).1)) = reckI ins i x from by simp only [reckI, reckB, reckR, h0, h1, h2, if_true, if_false, Bool.false_eq_true, reduceIte])⟩⟩, leB.refl _, trivial⟩
        · refine g_fin ?_
          exact g_end [0, 1, 2] (show ∀ k, k < 3 → ([0, 1, 2] : List Nat)[k]? = some k by decide) (by decide) ((show (decide ((unaryV x.2.2.2.2.1 (constK ins x.2.1)).2 < 0) : Bool) = reckB ins x from by simp only [reckI, reckB, reckR, h0, h1, h2, if_true, if_false, Bool.false_eq_true, reduceIte])) ⟨leB.refl _, ⟨rfl, ⟨rfl, (show (ins) = reckI ins i x from by simp only [reckI, reckB, reckR, h0, h1, h2, if_true, if_false, Bool.false_eq_true, reduceIte])⟩⟩, leB.refl _, trivial⟩

theorem reckI_len (ins : List EIns) (i : Int) (x : EIns) : (reckI ins i x).length = ins.length := by
  unfold reckI
  split
  · split
    · exact List.length_set
    · rfl
  · rfl
def neutN (x : EIns) : Int := if x.2.2.2.2.1 = 5 then 1 else if x.2.2.2.2.1 = 6 then 1 else 0
def fwholeB (t : ETrace) (v a : Int) : Bool := decide (kindF t v a = 2)
def neutL (t : ETrace) (ins : List EIns) (i : Int) (x : EIns) (m : Int) : Int := if isV ins x.2.2.1 (2, m) = true then (if fwholeB t x.2.1 i = true then x.2.1 else -1) else -1
def neutA (t : ETrace) (ins : List EIns) (i : Int) (x : EIns) (m : Int) : Int := if isV ins x.2.1 (2, m) = true then (if fwholeB t x.2.2.1 i = true then x.2.2.1 else neutL t ins i x m) else neutL t ins i x m
def neut4 (t : ETrace) (ins : List EIns) (i : Int) (x : EIns) (m : Int) : Int := if x.2.2.2.2.1 = 3 then neutA t ins i x m else if x.2.2.2.2.1 = 5 then neutA t ins i x m else if x.2.2.2.2.1 = 4 then neutL t ins i x m else if x.2.2.2.2.1 = 6 then neutL t ins i x m else -1
def neutralF (t : ETrace) (ins : List EIns) (i : Int) (x : EIns) : Int := if x.2.2.2.2.1 = 5 then neut4 t ins i x 1 else if x.2.2.2.2.1 = 6 then neut4 t ins i x 1 else neut4 t ins i x 0
def twice5 (t : ETrace) (i : Int) (x : EIns) : Option EVal := if kindF t x.2.1 i = 2 then (if x.2.2.2.2.1 = 4 then some (2, 0) else if x.2.2.2.2.1 = 9 then some (truthV false) else if x.2.2.2.2.1 = 10 then some (truthV true) else none) else none
def twiceV (t : ETrace) (i : Int) (x : EIns) : Option EVal := if (decide (x.2.2.2.2.1 = 8) && (decide (0 ≤ kindF t x.2.1 i) && !decide (kindF t x.2.1 i = 3))) = true then some (truthV true) else twice5 t i x
def twiceI5 (t : ETrace) (ins : List EIns) (i : Int) (x : EIns) : List EIns := match twice5 t i x with
  | some v => ins.set (Int.toNat i) (constI v)
  | none => ins
def twiceI (t : ETrace) (ins : List EIns) (i : Int) (x : EIns) : List EIns := match twiceV t i x with
  | some v => ins.set (Int.toNat i) (constI v)
  | none => ins
theorem twiceI_len (t : ETrace) (ins : List EIns) (i : Int) (x : EIns) : (twiceI t ins i x).length = ins.length := by
  unfold twiceI
  split
  · exact List.length_set
  · rfl
noncomputable def oc_neut : Orc where
  pure := fun f args => match f, args with
    | 135, [a0] => match dA tI a0 with
      | some x0 => some (.agg (Ty.enc tVal ((((2 : Int), x0) : EVal))))
      | _ => none
    | _, _ => none
  heap := fun f args H => match f, args with
    | 136, [.one (.c (.ptr b0 0 0 0)), a1, a2] => match cellsAs 136 H[b0]? with
      | some [c0_0_0, c0_0_1, c0_0_2, c0_0_3, c0_0_4, c0_0_5, c0_0_6, c0_0_7, c0_0_8, c0_0_9, c0_0_10, c0_0_11, c0_0_12, c0_1, c0_2, c0_3, .osl b1 8 n0_4, c0_5, c0_6_0, c0_6_1, c0_6_2, c0_6_3, c0_7_0, c0_7_1, c0_7_2, c0_7_3, .osl b2 1 n0_8] => (match dA tI a1, dA tVal a2, dCs tTrace [c0_0_0, c0_0_1, c0_0_2, c0_0_3, c0_0_4, c0_0_5, c0_0_6, c0_0_7, c0_0_8, c0_0_9, c0_0_10, c0_0_11, c0_0_12], dC tI c0_1, dC tI c0_2, dC tI c0_3, dC (.slice tExit) c0_5, dCs tExit [c0_6_0, c0_6_1, c0_6_2, c0_6_3], dCs tExit [c0_7_0, c0_7_1, c0_7_2, c0_7_3], ovecAs 46 tIns H[b1]?, ovecAs 3 tI H[b2]? with
        | some x1, some x2, some y0_0, some y0_1, some y0_2, some y0_3, some y0_5, some y0_6, some y0_7, some y1, some y2 => hres [b0, b1, b2] H (.c (.bool (isV y1 x1 x2))) [.cells 136 (fldC y0_0 y0_1 y0_2 y0_3 n0_4 y0_5 y0_6 y0_7 n0_8), .ovec 46 tIns y1, .ovec 3 tI y2]
        | _, _, _, _, _, _, _, _, _, _, _ => none)
      | _ => none
    | 137, [.one (.c (.ptr b0 0 0 0)), a1, a2] => match cellsAs 136 H[b0]? with
      | some [c0_0_0, c0_0_1, c0_0_2, c0_0_3, c0_0_4, c0_0_5, c0_0_6, c0_0_7, c0_0_8, c0_0_9, c0_0_10, c0_0_11, c0_0_12, c0_1, c0_2, c0_3, .osl b1 8 n0_4, c0_5, c0_6_0, c0_6_1, c0_6_2, c0_6_3, c0_7_0, c0_7_1, c0_7_2, c0_7_3, .osl b2 1 n0_8] => (match dA tI a1, dA tI a2, dCs tTrace [c0_0_0, c0_0_1, c0_0_2, c0_0_3, c0_0_4, c0_0_5, c0_0_6, c0_0_7, c0_0_8, c0_0_9, c0_0_10, c0_0_11, c0_0_12], dC tI c0_1, dC tI c0_2, dC tI c0_3, dC (.slice tExit) c0_5, dCs tExit [c0_6_0, c0_6_1, c0_6_2, c0_6_3], dCs tExit [c0_7_0, c0_7_1, c0_7_2, c0_7_3], ovecAs 46 tIns H[b1]?, ovecAs 3 tI H[b2]? with
        | some x1, some x2, some y0_0, some y0_1, some y0_2, some y0_3, some y0_5, some y0_6, some y0_7, some y1, some y2 => hres [b0, b1, b2] H (.c (.bool (fwholeB y0_0 x1 x2))) [.cells 136 (fldC y0_0 y0_1 y0_2 y0_3 n0_4 y0_5 y0_6 y0_7 n0_8), .ovec 46 tIns y1, .ovec 3 tI y2]
        | _, _, _, _, _, _, _, _, _, _, _ => none)
      | _ => none
    | _, _ => none
def neut_lv : LV := ⟨(true :: true :: F2 (false :: true :: false :: true :: F32 (F8 (F4 (F2 ([])))))), [4, 12]⟩
noncomputable def neut_T (t : ETrace) (f1 : Int) (f2 : Int) (f3 : Int) (k : Nat) (ex : List EExit) (tu : EExit) (ba : EExit) (n : Nat) (ins : List EIns) (to : List Int) (i : Int) (x : EIns) : Tree :=
  .ite (decide (x.2.2.2.2.1 = 5))
  (.stop (rg (bodyOf Tryd.f134) 4) (.c (.ptr 0 0 0 0) :: .c (.int .i64 i) :: J2 (.junk :: .c (.ptr 3 0 0 0) :: .junk :: .c (.int .i64 1) :: J32 (J8 (J4 (J2 ([])))))) [.cells 136 (fldC t f1 f2 f3 k ex tu ba n), .ovec 46 tIns ins, .ovec 3 tI to, .cells 46 (Ty.enc tIns x)])
  (.ite (decide (x.2.2.2.2.1 = 6))
   (.stop (rg (bodyOf Tryd.f134) 4) (.c (.ptr 0 0 0 0) :: .c (.int .i64 i) :: J2 (.junk :: .c (.ptr 3 0 0 0) :: .junk :: .c (.int .i64 1) :: J32 (J8 (J4 (J2 ([])))))) [.cells 136 (fldC t f1 f2 f3 k ex tu ba n), .ovec 46 tIns ins, .ovec 3 tI to, .cells 46 (Ty.enc tIns x)])
   (.stop (rg (bodyOf Tryd.f134) 4) (.c (.ptr 0 0 0 0) :: .c (.int .i64 i) :: J2 (.junk :: .c (.ptr 3 0 0 0) :: .junk :: .c (.int .i64 0) :: J32 (J8 (J4 (J2 ([])))))) [.cells 136 (fldC t f1 f2 f3 k ex tu ba n), .ovec 46 tIns ins, .ovec 3 tI to, .cells 46 (Ty.enc tIns x)]))
theorem neut_T_ok (t : ETrace) (f1 : Int) (f2 : Int) (f3 : Int) (k : Nat) (ex : List EExit) (tu : EExit) (ba : EExit) (n : Nat) (ins : List EIns) (to : List Int) (i : Int) (x : EIns) : aRun Tryd.prog oc_neut Tryd.f134 neut_lv 3000 [.code (bodyOf Tryd.f134)] ([.c (.ptr 0 0 0 0), .c (.int .i64 i), .agg (tIns.enc x)] ++ List.replicate (Func.ntmps Tryd.f134 - 3) .junk) [.cells 136 (fldC t f1 f2 f3 k ex tu ba n), .ovec 46 tIns ins, .ovec 3 tI to] = neut_T t f1 f2 f3 k ex tu ba n ins to i x := by kernel_rfl
abbrev bEf7 (m : Int) : List CV := [.int .i64 (((2 : Int), m) : EVal).1, .int .i64 (((2 : Int), m) : EVal).2]
noncomputable def neut_r12_R (t : ETrace) (f1 : Int) (f2 : Int) (f3 : Int) (k : Nat) (ex : List EExit) (tu : EExit) (ba : EExit) (n : Nat) (ins : List EIns) (to : List Int) (i : Int) (x : EIns) (m : Int) : Tree :=
  .call 135 [.c (.int .i64 m)] false (.agg (bEf7 m)) <|
  .callH 136 [.c (.ptr 0 0 0 0), .c (.int .i64 x.2.2.1), .agg (bEf7 m)] [.cells 136 (fldC t f1 f2 f3 k ex tu ba n), .ovec 46 tIns ins, .ovec 3 tI to, .cells 46 (Ty.enc tIns x)] (.c (.bool (isV ins x.2.2.1 (((2 : Int), m) : EVal)))) [.cells 136 (fldC t f1 f2 f3 k ex tu ba n), .ovec 46 tIns ins, .ovec 3 tI to, .cells 46 (Ty.enc tIns x)] [0, 1, 2] <|
  .ite (isV ins x.2.2.1 (((2 : Int), m) : EVal))
  (.callH 137 [.c (.ptr 0 0 0 0), .c (.int .i64 x.2.1), .c (.int .i64 i)] [.cells 136 (fldC t f1 f2 f3 k ex tu ba n), .ovec 46 tIns ins, .ovec 3 tI to, .cells 46 (Ty.enc tIns x)] (.c (.bool (fwholeB t x.2.1 i))) [.cells 136 (fldC t f1 f2 f3 k ex tu ba n), .ovec 46 tIns ins, .ovec 3 tI to, .cells 46 (Ty.enc tIns x)] [0, 1, 2] <|
   .ite (fwholeB t x.2.1 i)
   (.ret (.c (.int .i64 x.2.1)) [.cells 136 (fldC t f1 f2 f3 k ex tu ba n), .ovec 46 tIns ins, .ovec 3 tI to, .cells 46 (Ty.enc tIns x)])
   (.ret (.c (.int .i64 (-1))) [.cells 136 (fldC t f1 f2 f3 k ex tu ba n), .ovec 46 tIns ins, .ovec 3 tI to, .cells 46 (Ty.enc tIns x)]))
  (.ret (.c (.int .i64 (-1))) [.cells 136 (fldC t f1 f2 f3 k ex tu ba n), .ovec 46 tIns ins, .ovec 3 tI to, .cells 46 (Ty.enc tIns x)])
theorem neut_r12_R_ok (t : ETrace) (f1 : Int) (f2 : Int) (f3 : Int) (k : Nat) (ex : List EExit) (tu : EExit) (ba : EExit) (n : Nat) (ins : List EIns) (to : List Int) (i : Int) (x : EIns) (m : Int) : aRound Tryd.prog oc_neut Tryd.f134 neut_lv 3000 (rg (bodyOf Tryd.f134) 12) (.c (.ptr 0 0 0 0) :: .c (.int .i64 i) :: J2 (.junk :: .c (.ptr 3 0 0 0) :: .junk :: .c (.int .i64 m) :: J32 (J8 (J4 (J2 ([])))))) [.cells 136 (fldC t f1 f2 f3 k ex tu ba n), .ovec 46 tIns ins, .ovec 3 tI to, .cells 46 (Ty.enc tIns x)] = neut_r12_R t f1 f2 f3 k ex tu ba n ins to i x m := by kernel_rfl
noncomputable def neut_r4_R (t : ETrace) (f1 : Int) (f2 : Int) (f3 : Int) (k : Nat) (ex : List EExit) (tu : EExit) (ba : EExit) (n : Nat) (ins : List EIns) (to : List Int) (i : Int) (x : EIns) (m : Int) : Tree :=
  .ite (decide (x.2.2.2.2.1 = 3))
  (.ite (decide (x.2.2.2.2.1 = 3))
   (.call 135 [.c (.int .i64 m)] false (.agg (bEf7 m)) <|
    .callH 136 [.c (.ptr 0 0 0 0), .c (.int .i64 x.2.1), .agg (bEf7 m)] [.cells 136 (fldC t f1 f2 f3 k ex tu ba n), .ovec 46 tIns ins, .ovec 3 tI to, .cells 46 (Ty.enc tIns x)] (.c (.bool (isV ins x.2.1 (((2 : Int), m) : EVal)))) [.cells 136 (fldC t f1 f2 f3 k ex tu ba n), .ovec 46 tIns ins, .ovec 3 tI to, .cells 46 (Ty.enc tIns x)] [0, 1, 2] <|
    .ite (isV ins x.2.1 (((2 : Int), m) : EVal))
    (.callH 137 [.c (.ptr 0 0 0 0), .c (.int .i64 x.2.2.1), .c (.int .i64 i)] [.cells 136 (fldC t f1 f2 f3 k ex tu ba n), .ovec 46 tIns ins, .ovec 3 tI to, .cells 46 (Ty.enc tIns x)] (.c (.bool (fwholeB t x.2.2.1 i))) [.cells 136 (fldC t f1 f2 f3 k ex tu ba n), .ovec 46 tIns ins, .ovec 3 tI to, .cells 46 (Ty.enc tIns x)] [0, 1, 2] <|
     .ite (fwholeB t x.2.2.1 i)
     (.ret (.c (.int .i64 x.2.2.1)) [.cells 136 (fldC t f1 f2 f3 k ex tu ba n), .ovec 46 tIns ins, .ovec 3 tI to, .cells 46 (Ty.enc tIns x)])
     (.stop (rg (bodyOf Tryd.f134) 12) (.c (.ptr 0 0 0 0) :: .c (.int .i64 i) :: J2 (.junk :: .c (.ptr 3 0 0 0) :: .junk :: .c (.int .i64 m) :: J32 (J8 (J4 (J2 ([])))))) [.cells 136 (fldC t f1 f2 f3 k ex tu ba n), .ovec 46 tIns ins, .ovec 3 tI to, .cells 46 (Ty.enc tIns x)]))
    (.stop (rg (bodyOf Tryd.f134) 12) (.c (.ptr 0 0 0 0) :: .c (.int .i64 i) :: J2 (.junk :: .c (.ptr 3 0 0 0) :: .junk :: .c (.int .i64 m) :: J32 (J8 (J4 (J2 ([])))))) [.cells 136 (fldC t f1 f2 f3 k ex tu ba n), .ovec 46 tIns ins, .ovec 3 tI to, .cells 46 (Ty.enc tIns x)]))
   (.ite (decide (x.2.2.2.2.1 = 4))
    (.ite (decide (x.2.2.2.2.1 = 4))
     (.stop (rg (bodyOf Tryd.f134) 12) (.c (.ptr 0 0 0 0) :: .c (.int .i64 i) :: J2 (.junk :: .c (.ptr 3 0 0 0) :: .junk :: .c (.int .i64 m) :: J32 (J8 (J4 (J2 ([])))))) [.cells 136 (fldC t f1 f2 f3 k ex tu ba n), .ovec 46 tIns ins, .ovec 3 tI to, .cells 46 (Ty.enc tIns x)])
     (.ret (.c (.int .i64 (-1))) [.cells 136 (fldC t f1 f2 f3 k ex tu ba n), .ovec 46 tIns ins, .ovec 3 tI to, .cells 46 (Ty.enc tIns x)]))
    (.ite (decide (x.2.2.2.2.1 = 6))
     (.stop (rg (bodyOf Tryd.f134) 12) (.c (.ptr 0 0 0 0) :: .c (.int .i64 i) :: J2 (.junk :: .c (.ptr 3 0 0 0) :: .junk :: .c (.int .i64 m) :: J32 (J8 (J4 (J2 ([])))))) [.cells 136 (fldC t f1 f2 f3 k ex tu ba n), .ovec 46 tIns ins, .ovec 3 tI to, .cells 46 (Ty.enc tIns x)])
     (.ret (.c (.int .i64 (-1))) [.cells 136 (fldC t f1 f2 f3 k ex tu ba n), .ovec 46 tIns ins, .ovec 3 tI to, .cells 46 (Ty.enc tIns x)]))))
  (.ite (decide (x.2.2.2.2.1 = 5))
   (.call 135 [.c (.int .i64 m)] false (.agg (bEf7 m)) <|
    .callH 136 [.c (.ptr 0 0 0 0), .c (.int .i64 x.2.1), .agg (bEf7 m)] [.cells 136 (fldC t f1 f2 f3 k ex tu ba n), .ovec 46 tIns ins, .ovec 3 tI to, .cells 46 (Ty.enc tIns x)] (.c (.bool (isV ins x.2.1 (((2 : Int), m) : EVal)))) [.cells 136 (fldC t f1 f2 f3 k ex tu ba n), .ovec 46 tIns ins, .ovec 3 tI to, .cells 46 (Ty.enc tIns x)] [0, 1, 2] <|
    .ite (isV ins x.2.1 (((2 : Int), m) : EVal))
    (.callH 137 [.c (.ptr 0 0 0 0), .c (.int .i64 x.2.2.1), .c (.int .i64 i)] [.cells 136 (fldC t f1 f2 f3 k ex tu ba n), .ovec 46 tIns ins, .ovec 3 tI to, .cells 46 (Ty.enc tIns x)] (.c (.bool (fwholeB t x.2.2.1 i))) [.cells 136 (fldC t f1 f2 f3 k ex tu ba n), .ovec 46 tIns ins, .ovec 3 tI to, .cells 46 (Ty.enc tIns x)] [0, 1, 2] <|
     .ite (fwholeB t x.2.2.1 i)
     (.ret (.c (.int .i64 x.2.2.1)) [.cells 136 (fldC t f1 f2 f3 k ex tu ba n), .ovec 46 tIns ins, .ovec 3 tI to, .cells 46 (Ty.enc tIns x)])
     (.stop (rg (bodyOf Tryd.f134) 12) (.c (.ptr 0 0 0 0) :: .c (.int .i64 i) :: J2 (.junk :: .c (.ptr 3 0 0 0) :: .junk :: .c (.int .i64 m) :: J32 (J8 (J4 (J2 ([])))))) [.cells 136 (fldC t f1 f2 f3 k ex tu ba n), .ovec 46 tIns ins, .ovec 3 tI to, .cells 46 (Ty.enc tIns x)]))
    (.stop (rg (bodyOf Tryd.f134) 12) (.c (.ptr 0 0 0 0) :: .c (.int .i64 i) :: J2 (.junk :: .c (.ptr 3 0 0 0) :: .junk :: .c (.int .i64 m) :: J32 (J8 (J4 (J2 ([])))))) [.cells 136 (fldC t f1 f2 f3 k ex tu ba n), .ovec 46 tIns ins, .ovec 3 tI to, .cells 46 (Ty.enc tIns x)]))
   (.ite (decide (x.2.2.2.2.1 = 4))
    (.ite (decide (x.2.2.2.2.1 = 4))
     (.stop (rg (bodyOf Tryd.f134) 12) (.c (.ptr 0 0 0 0) :: .c (.int .i64 i) :: J2 (.junk :: .c (.ptr 3 0 0 0) :: .junk :: .c (.int .i64 m) :: J32 (J8 (J4 (J2 ([])))))) [.cells 136 (fldC t f1 f2 f3 k ex tu ba n), .ovec 46 tIns ins, .ovec 3 tI to, .cells 46 (Ty.enc tIns x)])
     (.ret (.c (.int .i64 (-1))) [.cells 136 (fldC t f1 f2 f3 k ex tu ba n), .ovec 46 tIns ins, .ovec 3 tI to, .cells 46 (Ty.enc tIns x)]))
    (.ite (decide (x.2.2.2.2.1 = 6))
     (.stop (rg (bodyOf Tryd.f134) 12) (.c (.ptr 0 0 0 0) :: .c (.int .i64 i) :: J2 (.junk :: .c (.ptr 3 0 0 0) :: .junk :: .c (.int .i64 m) :: J32 (J8 (J4 (J2 ([])))))) [.cells 136 (fldC t f1 f2 f3 k ex tu ba n), .ovec 46 tIns ins, .ovec 3 tI to, .cells 46 (Ty.enc tIns x)])
     (.ret (.c (.int .i64 (-1))) [.cells 136 (fldC t f1 f2 f3 k ex tu ba n), .ovec 46 tIns ins, .ovec 3 tI to, .cells 46 (Ty.enc tIns x)]))))
theorem neut_r4_R_ok (t : ETrace) (f1 : Int) (f2 : Int) (f3 : Int) (k : Nat) (ex : List EExit) (tu : EExit) (ba : EExit) (n : Nat) (ins : List EIns) (to : List Int) (i : Int) (x : EIns) (m : Int) : aRound Tryd.prog oc_neut Tryd.f134 neut_lv 3000 (rg (bodyOf Tryd.f134) 4) (.c (.ptr 0 0 0 0) :: .c (.int .i64 i) :: J2 (.junk :: .c (.ptr 3 0 0 0) :: .junk :: .c (.int .i64 m) :: J32 (J8 (J4 (J2 ([])))))) [.cells 136 (fldC t f1 f2 f3 k ex tu ba n), .ovec 46 tIns ins, .ovec 3 tI to, .cells 46 (Ty.enc tIns x)] = neut_r4_R t f1 f2 f3 k ex tu ba n ins to i x m := by kernel_rfl
theorem neut_r12 (t : ETrace) (f1 : Int) (f2 : Int) (f3 : Int) (k : Nat) (ex : List EExit) (tu : EExit) (ba : EExit) (n : Nat) (ins : List EIns) (to : List Int) (i : Int) (x : EIns) (m : Int) (hi : 0 ≤ i ∧ i < (k : Int)) (ha : 0 ≤ x.2.1 ∧ x.2.1 < (k : Int)) (hb : 0 ≤ x.2.2.1 ∧ x.2.2.1 < (k : Int)) (hk : ins.length = k) : RunN 3 Tryd.prog 134 (finQ Tryd.prog 3 (.c (.int .i64 (neutL t ins i x m))) [.cells 136 (fldC t f1 f2 f3 k ex tu ba n), .ovec 46 tIns ins, .ovec 3 tI to]) (rg (bodyOf Tryd.f134) 12) (.c (.ptr 0 0 0 0) :: .c (.int .i64 i) :: J2 (.junk :: .c (.ptr 3 0 0 0) :: .junk :: .c (.int .i64 m) :: J32 (J8 (J4 (J2 ([])))))) [.cells 136 (fldC t f1 f2 f3 k ex tu ba n), .ovec 46 tIns ins, .ovec 3 tI to, .cells 46 (Ty.enc tIns x)] :=
  Run.roundA oc_neut neut_lv 3000 Tryd.func134 mixed (neut_r12_R t f1 f2 f3 k ex tu ba n ins to i x m) (neut_r12_R_ok t f1 f2 f3 k ex tu ba n ins to i x m) (by
    unfold neut_r12_R
    refine g_call (numF_fun m) (fun h => nomatch h) ?_
    refine g_callH (AFunH.frameB [0, 1, 2] (isv_fun t f1 f2 f3 k ex tu ba n ins to x.2.2.1 (((2 : Int), m) : EVal) (by assumption) (by simp only [reckI_len, hk])) rfl rfl rfl rfl rfl rfl rfl) ?_
    refine g_ite (fun h0 => ?_) (fun h0 => ?_)
    · refine g_callH (AFunH.frameB [0, 1, 2] (fwhole_fun t f1 f2 f3 k ex tu ba n ins to x.2.1 i) rfl rfl rfl rfl rfl rfl rfl) ?_
      refine g_ite (fun h1 => ?_) (fun h1 => ?_)
      · refine g_fin ?_
        exact g_end [0, 1, 2] (show ∀ k, k < 3 → ([0, 1, 2] : List Nat)[k]? = some k by decide) (by decide) (⟨rfl, (show (x.2.1 : Int) = neutL t ins i x m from by simp [neutL, h0, h1])⟩) ⟨leB.refl _, leB.refl _, leB.refl _, trivial⟩
      · refine g_fin ?_
        exact g_end [0, 1, 2] (show ∀ k, k < 3 → ([0, 1, 2] : List Nat)[k]? = some k by decide) (by decide) (⟨rfl, (show ((-1) : Int) = neutL t ins i x m from by simp [neutL, h0, h1])⟩) ⟨leB.refl _, leB.refl _, leB.refl _, trivial⟩
    · refine g_fin ?_
      exact g_end [0, 1, 2] (show ∀ k, k < 3 → ([0, 1, 2] : List Nat)[k]? = some k by decide) (by decide) (⟨rfl, (show ((-1) : Int) = neutL t ins i x m from by simp [neutL, h0])⟩) ⟨leB.refl _, leB.refl _, leB.refl _, trivial⟩
    )
theorem neut_r4 (t : ETrace) (f1 : Int) (f2 : Int) (f3 : Int) (k : Nat) (ex : List EExit) (tu : EExit) (ba : EExit) (n : Nat) (ins : List EIns) (to : List Int) (i : Int) (x : EIns) (m : Int) (hi : 0 ≤ i ∧ i < (k : Int)) (ha : 0 ≤ x.2.1 ∧ x.2.1 < (k : Int)) (hb : 0 ≤ x.2.2.1 ∧ x.2.2.1 < (k : Int)) (hk : ins.length = k) : RunN 3 Tryd.prog 134 (finQ Tryd.prog 3 (.c (.int .i64 (neut4 t ins i x m))) [.cells 136 (fldC t f1 f2 f3 k ex tu ba n), .ovec 46 tIns ins, .ovec 3 tI to]) (rg (bodyOf Tryd.f134) 4) (.c (.ptr 0 0 0 0) :: .c (.int .i64 i) :: J2 (.junk :: .c (.ptr 3 0 0 0) :: .junk :: .c (.int .i64 m) :: J32 (J8 (J4 (J2 ([])))))) [.cells 136 (fldC t f1 f2 f3 k ex tu ba n), .ovec 46 tIns ins, .ovec 3 tI to, .cells 46 (Ty.enc tIns x)] :=
  Run.roundA oc_neut neut_lv 3000 Tryd.func134 mixed (neut_r4_R t f1 f2 f3 k ex tu ba n ins to i x m) (neut_r4_R_ok t f1 f2 f3 k ex tu ba n ins to i x m) (by
    unfold neut_r4_R
    refine g_iteD (fun h0 => ?_) (fun h0 => ?_)
    · refine g_iteD (fun h1 => ?_) (fun h1 => ?_)
      · refine g_call (numF_fun m) (fun h => nomatch h) ?_
        refine g_callH (AFunH.frameB [0, 1, 2] (isv_fun t f1 f2 f3 k ex tu ba n ins to x.2.1 (((2 : Int), m) : EVal) (by assumption) (by simp only [reckI_len, hk])) rfl rfl rfl rfl rfl rfl rfl) ?_
        refine g_ite (fun h2 => ?_) (fun h2 => ?_)
        · refine g_callH (AFunH.frameB [0, 1, 2] (fwhole_fun t f1 f2 f3 k ex tu ba n ins to x.2.2.1 i) rfl rfl rfl rfl rfl rfl rfl) ?_
          refine g_ite (fun h3 => ?_) (fun h3 => ?_)
          · refine g_fin ?_
            exact g_end [0, 1, 2] (show ∀ k, k < 3 → ([0, 1, 2] : List Nat)[k]? = some k by decide) (by decide) (⟨rfl, (show (x.2.2.1 : Int) = neut4 t ins i x m from by simp [neut4, neutA, h0, h1, h2, h3])⟩) ⟨leB.refl _, leB.refl _, leB.refl _, trivial⟩
          · refine g_stop (RunN.keep [0, 1, 2, 3] (true :: true :: F2 (false :: true :: false :: true :: F32 (F8 (F4 (F2 ([])))))) (show ∀ k, k < 3 → ([0, 1, 2, 3] : List Nat)[k]? = some k by decide) (by decide) rfl rfl ?_)
            first | (exfalso; omega) | (have ht := neut_r12 t f1 f2 f3 k ex tu ba n ins to i x m hi ha hb hk; have e : neut4 t ins i x m = neutL t ins i x m := (by simp [neut4, neutA, h0, h1, h2, h3]); rw [e]; exact ht)
        · refine g_stop (RunN.keep [0, 1, 2, 3] (true :: true :: F2 (false :: true :: false :: true :: F32 (F8 (F4 (F2 ([])))))) (show ∀ k, k < 3 → ([0, 1, 2, 3] : List Nat)[k]? = some k by decide) (by decide) rfl rfl ?_)
          first | (exfalso; omega) | (have ht := neut_r12 t f1 f2 f3 k ex tu ba n ins to i x m hi ha hb hk; have e : neut4 t ins i x m = neutL t ins i x m := (by simp [neut4, neutA, h0, h1, h2]); rw [e]; exact ht)
      · refine g_iteD (fun h2 => ?_) (fun h2 => ?_)
        · refine g_iteD (fun h3 => ?_) (fun h3 => ?_)
          · refine g_stop (RunN.keep [0, 1, 2, 3] (true :: true :: F2 (false :: true :: false :: true :: F32 (F8 (F4 (F2 ([])))))) (show ∀ k, k < 3 → ([0, 1, 2, 3] : List Nat)[k]? = some k by decide) (by decide) rfl rfl ?_)
            first | (exfalso; omega) | (have ht := neut_r12 t f1 f2 f3 k ex tu ba n ins to i x m hi ha hb hk; have e : neut4 t ins i x m = neutL t ins i x m := (by simp [neut4, neutA, h0, h1, h2, h3]); rw [e]; exact ht)
          · refine g_fin ?_
            exact g_end [0, 1, 2] (show ∀ k, k < 3 → ([0, 1, 2] : List Nat)[k]? = some k by decide) (by decide) (⟨rfl, (show ((-1) : Int) = neut4 t ins i x m from by exfalso; omega)⟩) ⟨leB.refl _, leB.refl _, leB.refl _, trivial⟩
        · refine g_iteD (fun h3 => ?_) (fun h3 => ?_)
          · refine g_stop (RunN.keep [0, 1, 2, 3] (true :: true :: F2 (false :: true :: false :: true :: F32 (F8 (F4 (F2 ([])))))) (show ∀ k, k < 3 → ([0, 1, 2, 3] : List Nat)[k]? = some k by decide) (by decide) rfl rfl ?_)
            first | (exfalso; omega) | (have ht := neut_r12 t f1 f2 f3 k ex tu ba n ins to i x m hi ha hb hk; have e : neut4 t ins i x m = neutL t ins i x m := (by simp [neut4, neutA, h0, h1, h2, h3]); rw [e]; exact ht)
          · refine g_fin ?_
            exact g_end [0, 1, 2] (show ∀ k, k < 3 → ([0, 1, 2] : List Nat)[k]? = some k by decide) (by decide) (⟨rfl, (show ((-1) : Int) = neut4 t ins i x m from by exfalso; omega)⟩) ⟨leB.refl _, leB.refl _, leB.refl _, trivial⟩
    · refine g_iteD (fun h1 => ?_) (fun h1 => ?_)
      · refine g_call (numF_fun m) (fun h => nomatch h) ?_
        refine g_callH (AFunH.frameB [0, 1, 2] (isv_fun t f1 f2 f3 k ex tu ba n ins to x.2.1 (((2 : Int), m) : EVal) (by assumption) (by simp only [reckI_len, hk])) rfl rfl rfl rfl rfl rfl rfl) ?_
        refine g_ite (fun h2 => ?_) (fun h2 => ?_)
        · refine g_callH (AFunH.frameB [0, 1, 2] (fwhole_fun t f1 f2 f3 k ex tu ba n ins to x.2.2.1 i) rfl rfl rfl rfl rfl rfl rfl) ?_
          refine g_ite (fun h3 => ?_) (fun h3 => ?_)
          · refine g_fin ?_
            exact g_end [0, 1, 2] (show ∀ k, k < 3 → ([0, 1, 2] : List Nat)[k]? = some k by decide) (by decide) (⟨rfl, (show (x.2.2.1 : Int) = neut4 t ins i x m from by simp [neut4, neutA, h0, h1, h2, h3])⟩) ⟨leB.refl _, leB.refl _, leB.refl _, trivial⟩
          · refine g_stop (RunN.keep [0, 1, 2, 3] (true :: true :: F2 (false :: true :: false :: true :: F32 (F8 (F4 (F2 ([])))))) (show ∀ k, k < 3 → ([0, 1, 2, 3] : List Nat)[k]? = some k by decide) (by decide) rfl rfl ?_)
            first | (exfalso; omega) | (have ht := neut_r12 t f1 f2 f3 k ex tu ba n ins to i x m hi ha hb hk; have e : neut4 t ins i x m = neutL t ins i x m := (by simp [neut4, neutA, h0, h1, h2, h3]); rw [e]; exact ht)
        · refine g_stop (RunN.keep [0, 1, 2, 3] (true :: true :: F2 (false :: true :: false :: true :: F32 (F8 (F4 (F2 ([])))))) (show ∀ k, k < 3 → ([0, 1, 2, 3] : List Nat)[k]? = some k by decide) (by decide) rfl rfl ?_)
          first | (exfalso; omega) | (have ht := neut_r12 t f1 f2 f3 k ex tu ba n ins to i x m hi ha hb hk; have e : neut4 t ins i x m = neutL t ins i x m := (by simp [neut4, neutA, h0, h1, h2]); rw [e]; exact ht)
      · refine g_iteD (fun h2 => ?_) (fun h2 => ?_)
        · refine g_iteD (fun h3 => ?_) (fun h3 => ?_)
          · refine g_stop (RunN.keep [0, 1, 2, 3] (true :: true :: F2 (false :: true :: false :: true :: F32 (F8 (F4 (F2 ([])))))) (show ∀ k, k < 3 → ([0, 1, 2, 3] : List Nat)[k]? = some k by decide) (by decide) rfl rfl ?_)
            first | (exfalso; omega) | (have ht := neut_r12 t f1 f2 f3 k ex tu ba n ins to i x m hi ha hb hk; have e : neut4 t ins i x m = neutL t ins i x m := (by simp [neut4, neutA, h0, h1, h2, h3]); rw [e]; exact ht)
          · refine g_fin ?_
            exact g_end [0, 1, 2] (show ∀ k, k < 3 → ([0, 1, 2] : List Nat)[k]? = some k by decide) (by decide) (⟨rfl, (show ((-1) : Int) = neut4 t ins i x m from by exfalso; omega)⟩) ⟨leB.refl _, leB.refl _, leB.refl _, trivial⟩
        · refine g_iteD (fun h3 => ?_) (fun h3 => ?_)
          · refine g_stop (RunN.keep [0, 1, 2, 3] (true :: true :: F2 (false :: true :: false :: true :: F32 (F8 (F4 (F2 ([])))))) (show ∀ k, k < 3 → ([0, 1, 2, 3] : List Nat)[k]? = some k by decide) (by decide) rfl rfl ?_)
            first | (exfalso; omega) | (have ht := neut_r12 t f1 f2 f3 k ex tu ba n ins to i x m hi ha hb hk; have e : neut4 t ins i x m = neutL t ins i x m := (by simp [neut4, neutA, h0, h1, h2, h3]); rw [e]; exact ht)
          · refine g_fin ?_
            exact g_end [0, 1, 2] (show ∀ k, k < 3 → ([0, 1, 2] : List Nat)[k]? = some k by decide) (by decide) (⟨rfl, (show ((-1) : Int) = neut4 t ins i x m from by simp [neut4, neutA, h0, h1, h2, h3])⟩) ⟨leB.refl _, leB.refl _, leB.refl _, trivial⟩
    )
theorem neut_fun (t : ETrace) (f1 : Int) (f2 : Int) (f3 : Int) (k : Nat) (ex : List EExit) (tu : EExit) (ba : EExit) (n : Nat) (ins : List EIns) (to : List Int) (i : Int) (x : EIns) (hi : 0 ≤ i ∧ i < (k : Int)) (ha : 0 ≤ x.2.1 ∧ x.2.1 < (k : Int)) (hb : 0 ≤ x.2.2.1 ∧ x.2.2.1 < (k : Int)) (hk : ins.length = k) : AFunH Tryd.prog 134 [.c (.ptr 0 0 0 0), .c (.int .i64 i), .agg (tIns.enc x)] [.cells 136 (fldC t f1 f2 f3 k ex tu ba n), .ovec 46 tIns ins, .ovec 3 tI to] (.c (.int .i64 (neutralF t ins i x))) [.cells 136 (fldC t f1 f2 f3 k ex tu ba n), .ovec 46 tIns ins, .ovec 3 tI to] (List.range 3) :=
  AFunH.ofL oc_neut neut_lv 3000 Tryd.func134 mixed rfl (by decide) (Nat.le_of_ble_eq_true rfl) rfl rfl (Nat.le_of_ble_eq_true rfl) _ (neut_T_ok t f1 f2 f3 k ex tu ba n ins to i x) fun hF => by
    unfold neut_T
    refine g_iteD (fun h0 => ?_) (fun h0 => ?_)
    · refine g_stop (RunN.keep [0, 1, 2, 3] (true :: true :: F2 (false :: true :: false :: true :: F32 (F8 (F4 (F2 ([])))))) (show ∀ k, k < 3 → ([0, 1, 2, 3] : List Nat)[k]? = some k by decide) (by decide) rfl rfl ?_)
      first | (exfalso; omega) | (have ht := neut_r4 t f1 f2 f3 k ex tu ba n ins to i x 1 hi ha hb hk; have e : neutralF t ins i x = neut4 t ins i x 1 := (by simp [neutralF, h0]); rw [e]; exact ht)
    · refine g_iteD (fun h1 => ?_) (fun h1 => ?_)
      · refine g_stop (RunN.keep [0, 1, 2, 3] (true :: true :: F2 (false :: true :: false :: true :: F32 (F8 (F4 (F2 ([])))))) (show ∀ k, k < 3 → ([0, 1, 2, 3] : List Nat)[k]? = some k by decide) (by decide) rfl rfl ?_)
        first | (exfalso; omega) | (have ht := neut_r4 t f1 f2 f3 k ex tu ba n ins to i x 1 hi ha hb hk; have e : neutralF t ins i x = neut4 t ins i x 1 := (by simp [neutralF, h0, h1]); rw [e]; exact ht)
      · refine g_stop (RunN.keep [0, 1, 2, 3] (true :: true :: F2 (false :: true :: false :: true :: F32 (F8 (F4 (F2 ([])))))) (show ∀ k, k < 3 → ([0, 1, 2, 3] : List Nat)[k]? = some k by decide) (by decide) rfl rfl ?_)
        first | (exfalso; omega) | (have ht := neut_r4 t f1 f2 f3 k ex tu ba n ins to i x 0 hi ha hb hk; have e : neutralF t ins i x = neut4 t ins i x 0 := (by simp [neutralF, h0, h1]); rw [e]; exact ht)

noncomputable def oc_twice : Orc where
  pure := fun f args => match f, args with
    | 21, [a0, a1, a2] => match dA tTrace a0, dA tI a1, dA tI a2 with
      | some x0, some x1, some x2 => some (.c (.int .i64 (kindF x0 x1 x2)))
      | _, _, _ => none
    | 135, [a0] => match dA tI a0 with
      | some x0 => some (.agg (Ty.enc tVal ((((2 : Int), x0) : EVal))))
      | _ => none
    | 154, [a0] => match dA .bool a0 with
      | some x0 => some (.agg (Ty.enc tVal (truthV x0)))
      | _ => none
    | _, _ => none
  heap := fun f args H => match f, args with
    | 138, [.one (.c (.ptr b0 0 0 0)), a1, a2] => match cellsAs 136 H[b0]? with
      | some [c0_0_0, c0_0_1, c0_0_2, c0_0_3, c0_0_4, c0_0_5, c0_0_6, c0_0_7, c0_0_8, c0_0_9, c0_0_10, c0_0_11, c0_0_12, c0_1, c0_2, c0_3, .osl b1 8 n0_4, c0_5, c0_6_0, c0_6_1, c0_6_2, c0_6_3, c0_7_0, c0_7_1, c0_7_2, c0_7_3, .osl b2 1 n0_8] => (match dA tI a1, dA tVal a2, dCs tTrace [c0_0_0, c0_0_1, c0_0_2, c0_0_3, c0_0_4, c0_0_5, c0_0_6, c0_0_7, c0_0_8, c0_0_9, c0_0_10, c0_0_11, c0_0_12], dC tI c0_1, dC tI c0_2, dC tI c0_3, dC (.slice tExit) c0_5, dCs tExit [c0_6_0, c0_6_1, c0_6_2, c0_6_3], dCs tExit [c0_7_0, c0_7_1, c0_7_2, c0_7_3], ovecAs 46 tIns H[b1]?, ovecAs 3 tI H[b2]? with
        | some x1, some x2, some y0_0, some y0_1, some y0_2, some y0_3, some y0_5, some y0_6, some y0_7, some y1, some y2 => hres [b0, b1, b2] H (.tup []) [.cells 136 (fldC y0_0 y0_1 y0_2 y0_3 n0_4 y0_5 y0_6 y0_7 n0_8), .ovec 46 tIns (y1.set (Int.toNat x1) (constI x2)), .ovec 3 tI y2]
        | _, _, _, _, _, _, _, _, _, _, _ => none)
      | _ => none
    | _, _ => none
def twice_lv : LV := ⟨(true :: true :: F2 (false :: true :: false :: true :: F32 (F16 (F2 (false :: []))))), [5]⟩
noncomputable def twice_T (t : ETrace) (f1 : Int) (f2 : Int) (f3 : Int) (k : Nat) (ex : List EExit) (tu : EExit) (ba : EExit) (n : Nat) (ins : List EIns) (to : List Int) (i : Int) (x : EIns) : Tree :=
  .call 21 [.agg (Ty.enc tTrace t), .c (.int .i64 x.2.1), .c (.int .i64 i)] false (.c (.int .i64 (kindF t x.2.1 i))) <|
  .ite (decide (x.2.2.2.2.1 = 8))
  (.ite (decide ((0 : Int) ≤ kindF t x.2.1 i))
   (.ite ((!(decide (kindF t x.2.1 i = 3))))
    (.call 154 [.c (.lit true)] false (.agg [.int .i64 (truthV true).1, .int .i64 (truthV true).2]) <|
     .callH 138 [.c (.ptr 0 0 0 0), .c (.int .i64 i), .agg [.int .i64 (truthV true).1, .int .i64 (truthV true).2]] [.cells 136 (fldC t f1 f2 f3 k ex tu ba n), .ovec 46 tIns ins, .ovec 3 tI to, .cells 46 (Ty.enc tIns x)] (.tup []) [.cells 136 (fldC t f1 f2 f3 k ex tu ba n), .ovec 46 tIns (ins.set (Int.toNat i) (constI (truthV true))), .ovec 3 tI to, .cells 46 (Ty.enc tIns x)] [0, 1, 2] <|
     .ret (.c (.lit true)) [.cells 136 (fldC t f1 f2 f3 k ex tu ba n), .ovec 46 tIns (ins.set (Int.toNat i) (constI (truthV true))), .ovec 3 tI to, .cells 46 (Ty.enc tIns x)])
    (.stop (rg (bodyOf Tryd.f139) 5) (.c (.ptr 0 0 0 0) :: .c (.int .i64 i) :: J2 (.junk :: .c (.ptr 3 0 0 0) :: .junk :: .c (.int .i64 (kindF t x.2.1 i)) :: J32 (J16 (J2 (.junk :: []))))) [.cells 136 (fldC t f1 f2 f3 k ex tu ba n), .ovec 46 tIns ins, .ovec 3 tI to, .cells 46 (Ty.enc tIns x)]))
   (.stop (rg (bodyOf Tryd.f139) 5) (.c (.ptr 0 0 0 0) :: .c (.int .i64 i) :: J2 (.junk :: .c (.ptr 3 0 0 0) :: .junk :: .c (.int .i64 (kindF t x.2.1 i)) :: J32 (J16 (J2 (.junk :: []))))) [.cells 136 (fldC t f1 f2 f3 k ex tu ba n), .ovec 46 tIns ins, .ovec 3 tI to, .cells 46 (Ty.enc tIns x)]))
  (.stop (rg (bodyOf Tryd.f139) 5) (.c (.ptr 0 0 0 0) :: .c (.int .i64 i) :: J2 (.junk :: .c (.ptr 3 0 0 0) :: .junk :: .c (.int .i64 (kindF t x.2.1 i)) :: J32 (J16 (J2 (.junk :: []))))) [.cells 136 (fldC t f1 f2 f3 k ex tu ba n), .ovec 46 tIns ins, .ovec 3 tI to, .cells 46 (Ty.enc tIns x)])
theorem twice_T_ok (t : ETrace) (f1 : Int) (f2 : Int) (f3 : Int) (k : Nat) (ex : List EExit) (tu : EExit) (ba : EExit) (n : Nat) (ins : List EIns) (to : List Int) (i : Int) (x : EIns) : aRun Tryd.prog oc_twice Tryd.f139 twice_lv 3000 [.code (bodyOf Tryd.f139)] ([.c (.ptr 0 0 0 0), .c (.int .i64 i), .agg (tIns.enc x)] ++ List.replicate (Func.ntmps Tryd.f139 - 3) .junk) [.cells 136 (fldC t f1 f2 f3 k ex tu ba n), .ovec 46 tIns ins, .ovec 3 tI to] = twice_T t f1 f2 f3 k ex tu ba n ins to i x := by kernel_rfl
abbrev bEf5 (x : EIns) : List CV := [.int .i64 (truthV (decide (x.2.2.2.2.1 = 10))).1, .int .i64 (truthV (decide (x.2.2.2.2.1 = 10))).2]
abbrev bEf8 : List CV := [.int .i64 (((2 : Int), 0) : EVal).1, .int .i64 (((2 : Int), 0) : EVal).2]
noncomputable def twice_r5_R (t : ETrace) (f1 : Int) (f2 : Int) (f3 : Int) (k : Nat) (ex : List EExit) (tu : EExit) (ba : EExit) (n : Nat) (ins : List EIns) (to : List Int) (i : Int) (x : EIns) : Tree :=
  .ite ((!(decide (kindF t x.2.1 i = 2))))
  (.ret (.c (.lit false)) [.cells 136 (fldC t f1 f2 f3 k ex tu ba n), .ovec 46 tIns ins, .ovec 3 tI to, .cells 46 (Ty.enc tIns x)])
  (.ite (decide (x.2.2.2.2.1 = 4))
   (.call 135 [.c (.int .i64 0)] false (.agg bEf8) <|
    .callH 138 [.c (.ptr 0 0 0 0), .c (.int .i64 i), .agg bEf8] [.cells 136 (fldC t f1 f2 f3 k ex tu ba n), .ovec 46 tIns ins, .ovec 3 tI to, .cells 46 (Ty.enc tIns x)] (.tup []) [.cells 136 (fldC t f1 f2 f3 k ex tu ba n), .ovec 46 tIns (ins.set (Int.toNat i) (constI (((2 : Int), 0) : EVal))), .ovec 3 tI to, .cells 46 (Ty.enc tIns x)] [0, 1, 2] <|
    .ret (.c (.lit true)) [.cells 136 (fldC t f1 f2 f3 k ex tu ba n), .ovec 46 tIns (ins.set (Int.toNat i) (constI (((2 : Int), 0) : EVal))), .ovec 3 tI to, .cells 46 (Ty.enc tIns x)])
   (.ite (decide (x.2.2.2.2.1 = 9))
    (.call 154 [.c (.bool (decide (x.2.2.2.2.1 = 10)))] false (.agg (bEf5 x)) <|
     .callH 138 [.c (.ptr 0 0 0 0), .c (.int .i64 i), .agg (bEf5 x)] [.cells 136 (fldC t f1 f2 f3 k ex tu ba n), .ovec 46 tIns ins, .ovec 3 tI to, .cells 46 (Ty.enc tIns x)] (.tup []) [.cells 136 (fldC t f1 f2 f3 k ex tu ba n), .ovec 46 tIns (ins.set (Int.toNat i) (constI (truthV (decide (x.2.2.2.2.1 = 10))))), .ovec 3 tI to, .cells 46 (Ty.enc tIns x)] [0, 1, 2] <|
     .ret (.c (.lit true)) [.cells 136 (fldC t f1 f2 f3 k ex tu ba n), .ovec 46 tIns (ins.set (Int.toNat i) (constI (truthV (decide (x.2.2.2.2.1 = 10))))), .ovec 3 tI to, .cells 46 (Ty.enc tIns x)])
    (.ite (decide (x.2.2.2.2.1 = 10))
     (.call 154 [.c (.bool (decide (x.2.2.2.2.1 = 10)))] false (.agg (bEf5 x)) <|
      .callH 138 [.c (.ptr 0 0 0 0), .c (.int .i64 i), .agg (bEf5 x)] [.cells 136 (fldC t f1 f2 f3 k ex tu ba n), .ovec 46 tIns ins, .ovec 3 tI to, .cells 46 (Ty.enc tIns x)] (.tup []) [.cells 136 (fldC t f1 f2 f3 k ex tu ba n), .ovec 46 tIns (ins.set (Int.toNat i) (constI (truthV (decide (x.2.2.2.2.1 = 10))))), .ovec 3 tI to, .cells 46 (Ty.enc tIns x)] [0, 1, 2] <|
      .ret (.c (.lit true)) [.cells 136 (fldC t f1 f2 f3 k ex tu ba n), .ovec 46 tIns (ins.set (Int.toNat i) (constI (truthV (decide (x.2.2.2.2.1 = 10))))), .ovec 3 tI to, .cells 46 (Ty.enc tIns x)])
     (.ret (.c (.lit false)) [.cells 136 (fldC t f1 f2 f3 k ex tu ba n), .ovec 46 tIns ins, .ovec 3 tI to, .cells 46 (Ty.enc tIns x)]))))
theorem twice_r5_R_ok (t : ETrace) (f1 : Int) (f2 : Int) (f3 : Int) (k : Nat) (ex : List EExit) (tu : EExit) (ba : EExit) (n : Nat) (ins : List EIns) (to : List Int) (i : Int) (x : EIns) : aRound Tryd.prog oc_twice Tryd.f139 twice_lv 3000 (rg (bodyOf Tryd.f139) 5) (.c (.ptr 0 0 0 0) :: .c (.int .i64 i) :: J2 (.junk :: .c (.ptr 3 0 0 0) :: .junk :: .c (.int .i64 (kindF t x.2.1 i)) :: J32 (J16 (J2 (.junk :: []))))) [.cells 136 (fldC t f1 f2 f3 k ex tu ba n), .ovec 46 tIns ins, .ovec 3 tI to, .cells 46 (Ty.enc tIns x)] = twice_r5_R t f1 f2 f3 k ex tu ba n ins to i x := by kernel_rfl
theorem twice_r5 (t : ETrace) (f1 : Int) (f2 : Int) (f3 : Int) (k : Nat) (ex : List EExit) (tu : EExit) (ba : EExit) (n : Nat) (ins : List EIns) (to : List Int) (i : Int) (x : EIns) (hv : 0 ≤ i ∧ i < (k : Int)) (hk : ins.length = k) : RunN 3 Tryd.prog 139 (finQ Tryd.prog 3 (.c (.bool ((twice5 t i x).isSome))) [.cells 136 (fldC t f1 f2 f3 k ex tu ba n), .ovec 46 tIns (twiceI5 t ins i x), .ovec 3 tI to]) (rg (bodyOf Tryd.f139) 5) (.c (.ptr 0 0 0 0) :: .c (.int .i64 i) :: J2 (.junk :: .c (.ptr 3 0 0 0) :: .junk :: .c (.int .i64 (kindF t x.2.1 i)) :: J32 (J16 (J2 (.junk :: []))))) [.cells 136 (fldC t f1 f2 f3 k ex tu ba n), .ovec 46 tIns ins, .ovec 3 tI to, .cells 46 (Ty.enc tIns x)] :=
  Run.roundA oc_twice twice_lv 3000 Tryd.func139 mixed (twice_r5_R t f1 f2 f3 k ex tu ba n ins to i x) (twice_r5_R_ok t f1 f2 f3 k ex tu ba n ins to i x) (by
    unfold twice_r5_R
    refine g_iteND (fun h0 => ?_) (fun h0 => ?_)
    · refine g_fin ?_
      exact g_end [0, 1, 2] (show ∀ k, k < 3 → ([0, 1, 2] : List Nat)[k]? = some k by decide) (by decide) ((show (false : Bool) = (twice5 t i x).isSome from by simp [twiceI5, twice5, h0])) ⟨leB.refl _, ⟨rfl, ⟨rfl, (show (ins) = twiceI5 t ins i x from by simp [twiceI5, twice5, h0])⟩⟩, leB.refl _, trivial⟩
    · refine g_iteD (fun h1 => ?_) (fun h1 => ?_)
      · refine g_call (numF_fun 0) (fun h => nomatch h) ?_
        refine g_callH (AFunH.frameB [0, 1, 2] (become_fun t f1 f2 f3 k ex tu ba n ins to i (((2 : Int), 0) : EVal) (by assumption) (by simp only [reckI_len, hk])) rfl rfl rfl rfl rfl rfl rfl) ?_
        refine g_fin ?_
        exact g_end [0, 1, 2] (show ∀ k, k < 3 → ([0, 1, 2] : List Nat)[k]? = some k by decide) (by decide) ((show (true : Bool) = (twice5 t i x).isSome from by simp [twiceI5, twice5, h0, h1])) ⟨leB.refl _, ⟨rfl, ⟨rfl, (show (ins.set (Int.toNat i) (constI (((2 : Int), 0) : EVal))) = twiceI5 t ins i x from by simp [twiceI5, twice5, h0, h1])⟩⟩, leB.refl _, trivial⟩
      · refine g_iteD (fun h2 => ?_) (fun h2 => ?_)
        · refine g_call (trF_fun (decide (x.2.2.2.2.1 = 10))) (fun h => nomatch h) ?_
          refine g_callH (AFunH.frameB [0, 1, 2] (become_fun t f1 f2 f3 k ex tu ba n ins to i (truthV (decide (x.2.2.2.2.1 = 10))) (by assumption) (by simp only [reckI_len, hk])) rfl rfl rfl rfl rfl rfl rfl) ?_
          refine g_fin ?_
          exact g_end [0, 1, 2] (show ∀ k, k < 3 → ([0, 1, 2] : List Nat)[k]? = some k by decide) (by decide) ((show (true : Bool) = (twice5 t i x).isSome from by simp [twiceI5, twice5, h0, h1, h2])) ⟨leB.refl _, ⟨rfl, ⟨rfl, (show (ins.set (Int.toNat i) (constI (truthV (decide (x.2.2.2.2.1 = 10))))) = twiceI5 t ins i x from by simp [twiceI5, twice5, h0, h1, h2])⟩⟩, leB.refl _, trivial⟩
        · refine g_iteD (fun h3 => ?_) (fun h3 => ?_)
          · refine g_call (trF_fun (decide (x.2.2.2.2.1 = 10))) (fun h => nomatch h) ?_
            refine g_callH (AFunH.frameB [0, 1, 2] (become_fun t f1 f2 f3 k ex tu ba n ins to i (truthV (decide (x.2.2.2.2.1 = 10))) (by assumption) (by simp only [reckI_len, hk])) rfl rfl rfl rfl rfl rfl rfl) ?_
            refine g_fin ?_
            exact g_end [0, 1, 2] (show ∀ k, k < 3 → ([0, 1, 2] : List Nat)[k]? = some k by decide) (by decide) ((show (true : Bool) = (twice5 t i x).isSome from by simp [twiceI5, twice5, h0, h1, h2, h3])) ⟨leB.refl _, ⟨rfl, ⟨rfl, (show (ins.set (Int.toNat i) (constI (truthV (decide (x.2.2.2.2.1 = 10))))) = twiceI5 t ins i x from by simp [twiceI5, twice5, h0, h1, h2, h3])⟩⟩, leB.refl _, trivial⟩
          · refine g_fin ?_
            exact g_end [0, 1, 2] (show ∀ k, k < 3 → ([0, 1, 2] : List Nat)[k]? = some k by decide) (by decide) ((show (false : Bool) = (twice5 t i x).isSome from by simp [twiceI5, twice5, h0, h1, h2, h3])) ⟨leB.refl _, ⟨rfl, ⟨rfl, (show (ins) = twiceI5 t ins i x from by simp [twiceI5, twice5, h0, h1, h2, h3])⟩⟩, leB.refl _, trivial⟩
    )
theorem twice_fun (t : ETrace) (f1 : Int) (f2 : Int) (f3 : Int) (k : Nat) (ex : List EExit) (tu : EExit) (ba : EExit) (n : Nat) (ins : List EIns) (to : List Int) (i : Int) (x : EIns) (hv : 0 ≤ i ∧ i < (k : Int)) (hk : ins.length = k) : AFunH Tryd.prog 139 [.c (.ptr 0 0 0 0), .c (.int .i64 i), .agg (tIns.enc x)] [.cells 136 (fldC t f1 f2 f3 k ex tu ba n), .ovec 46 tIns ins, .ovec 3 tI to] (.c (.bool ((twiceV t i x).isSome))) [.cells 136 (fldC t f1 f2 f3 k ex tu ba n), .ovec 46 tIns (twiceI t ins i x), .ovec 3 tI to] (List.range 3) :=
  AFunH.ofL oc_twice twice_lv 3000 Tryd.func139 mixed rfl (by decide) (Nat.le_of_ble_eq_true rfl) rfl rfl (Nat.le_of_ble_eq_true rfl) _ (twice_T_ok t f1 f2 f3 k ex tu ba n ins to i x) fun hF => by
    unfold twice_T
    refine g_call (kind_fun t x.2.1 i) (fun h => nomatch h) ?_
    refine g_iteD (fun h0 => ?_) (fun h0 => ?_)
    · refine g_iteD (fun h1 => ?_) (fun h1 => ?_)
      · refine g_iteND (fun h2 => ?_) (fun h2 => ?_)
        · refine g_callA (trF_fun true) (by simp [leAVs, leAV, leA1, leCs, leC, Ty.enc]) (fun h => nomatch h) ?_
          refine g_callH (AFunH.frameB [0, 1, 2] (become_fun t f1 f2 f3 k ex tu ba n ins to i (truthV true) (by assumption) (by simp only [reckI_len, hk])) rfl rfl rfl rfl rfl rfl rfl) ?_
          refine g_fin ?_
          exact g_end [0, 1, 2] (show ∀ k, k < 3 → ([0, 1, 2] : List Nat)[k]? = some k by decide) (by decide) ((show (true : Bool) = (twiceV t i x).isSome from by simp [twiceI, twiceV, h0, h1, h2])) ⟨leB.refl _, ⟨rfl, ⟨rfl, (show (ins.set (Int.toNat i) (constI (truthV true))) = twiceI t ins i x from by simp [twiceI, twiceV, h0, h1, h2])⟩⟩, leB.refl _, trivial⟩
        · refine g_stop (RunN.keep [0, 1, 2, 3] (true :: true :: F2 (false :: true :: false :: true :: F32 (F16 (F2 (false :: []))))) (show ∀ k, k < 3 → ([0, 1, 2, 3] : List Nat)[k]? = some k by decide) (by decide) rfl rfl ?_)
          have ht := twice_r5 t f1 f2 f3 k ex tu ba n ins to i x hv hk; have e : twiceV t i x = twice5 t i x := (by simp [twiceV, h0, h1, h2]); have e2 : twiceI t ins i x = twiceI5 t ins i x := (by unfold twiceI twiceI5; rw [e]); rw [e, e2]; exact ht
      · refine g_stop (RunN.keep [0, 1, 2, 3] (true :: true :: F2 (false :: true :: false :: true :: F32 (F16 (F2 (false :: []))))) (show ∀ k, k < 3 → ([0, 1, 2, 3] : List Nat)[k]? = some k by decide) (by decide) rfl rfl ?_)
        have ht := twice_r5 t f1 f2 f3 k ex tu ba n ins to i x hv hk; have e : twiceV t i x = twice5 t i x := (by simp [twiceV, h0, h1]); have e2 : twiceI t ins i x = twiceI5 t ins i x := (by unfold twiceI twiceI5; rw [e]); rw [e, e2]; exact ht
    · refine g_stop (RunN.keep [0, 1, 2, 3] (true :: true :: F2 (false :: true :: false :: true :: F32 (F16 (F2 (false :: []))))) (show ∀ k, k < 3 → ([0, 1, 2, 3] : List Nat)[k]? = some k by decide) (by decide) rfl rfl ?_)
      have ht := twice_r5 t f1 f2 f3 k ex tu ba n ins to i x hv hk; have e : twiceV t i x = twice5 t i x := (by simp [twiceV, h0]); have e2 : twiceI t ins i x = twiceI5 t ins i x := (by unfold twiceI twiceI5; rw [e]); rw [e, e2]; exact ht

def zeroB (t : ETrace) (ins : List EIns) (i : Int) (x : EIns) : Bool := if x.2.2.2.2.1 = 5 then (if isV ins x.2.1 (2, 0) = true then (if fwholeB t x.2.2.1 i = true then true else if isV ins x.2.2.1 (2, 0) = true then fwholeB t x.2.1 i else false) else if isV ins x.2.2.1 (2, 0) = true then fwholeB t x.2.1 i else false) else false
/-- What becomes of an order with two values, and what it stands for. -/
def twoI (t : ETrace) (ins : List EIns) (i : Int) (x : EIns) : List EIns := if reckB ins x = true then reckI ins i x else if 0 ≤ neutralF t (reckI ins i x) i x then reckI ins i x else if zeroB t (reckI ins i x) i x = true then (reckI ins i x).set (Int.toNat i) (constI (2, 0)) else if x.2.1 = x.2.2.1 then twiceI t (reckI ins i x) i x else reckI ins i x
def twoT (t : ETrace) (ins : List EIns) (to : List Int) (i : Int) (x : EIns) : List Int := if reckB ins x = true then to else if 0 ≤ neutralF t (reckI ins i x) i x then to.set (Int.toNat i) (neutralF t (reckI ins i x) i x) else to
theorem twoI_len (t : ETrace) (ins : List EIns) (i : Int) (x : EIns) : (twoI t ins i x).length = ins.length := by
  unfold twoI
  repeat' split
  all_goals simp only [List.length_set, reckI_len, twiceI_len]
theorem twoT_len (t : ETrace) (ins : List EIns) (to : List Int) (i : Int) (x : EIns) : (twoT t ins to i x).length = to.length := by
  unfold twoT
  repeat' split
  all_goals simp only [List.length_set]
noncomputable def oc_two : Orc where
  pure := fun f args => match f, args with
    | 135, [a0] => match dA tI a0 with
      | some x0 => some (.agg (Ty.enc tVal ((((2 : Int), x0) : EVal))))
      | _ => none
    | _, _ => none
  heap := fun f args H => match f, args with
    | 103, [.one (.c (.ptr b0 0 0 0)), a1, a2] => match cellsAs 136 H[b0]? with
      | some [c0_0_0, c0_0_1, c0_0_2, c0_0_3, c0_0_4, c0_0_5, c0_0_6, c0_0_7, c0_0_8, c0_0_9, c0_0_10, c0_0_11, c0_0_12, c0_1, c0_2, c0_3, .osl b1 8 n0_4, c0_5, c0_6_0, c0_6_1, c0_6_2, c0_6_3, c0_7_0, c0_7_1, c0_7_2, c0_7_3, .osl b2 1 n0_8] => (match dA tI a1, dA tIns a2, dCs tTrace [c0_0_0, c0_0_1, c0_0_2, c0_0_3, c0_0_4, c0_0_5, c0_0_6, c0_0_7, c0_0_8, c0_0_9, c0_0_10, c0_0_11, c0_0_12], dC tI c0_1, dC tI c0_2, dC tI c0_3, dC (.slice tExit) c0_5, dCs tExit [c0_6_0, c0_6_1, c0_6_2, c0_6_3], dCs tExit [c0_7_0, c0_7_1, c0_7_2, c0_7_3], ovecAs 46 tIns H[b1]?, ovecAs 3 tI H[b2]? with
        | some x1, some x2, some y0_0, some y0_1, some y0_2, some y0_3, some y0_5, some y0_6, some y0_7, some y1, some y2 => hres [b0, b1, b2] H (.c (.bool (reckB y1 x2))) [.cells 136 (fldC y0_0 y0_1 y0_2 y0_3 n0_4 y0_5 y0_6 y0_7 n0_8), .ovec 46 tIns (reckI y1 x1 x2), .ovec 3 tI y2]
        | _, _, _, _, _, _, _, _, _, _, _ => none)
      | _ => none
    | 134, [.one (.c (.ptr b0 0 0 0)), a1, a2] => match cellsAs 136 H[b0]? with
      | some [c0_0_0, c0_0_1, c0_0_2, c0_0_3, c0_0_4, c0_0_5, c0_0_6, c0_0_7, c0_0_8, c0_0_9, c0_0_10, c0_0_11, c0_0_12, c0_1, c0_2, c0_3, .osl b1 8 n0_4, c0_5, c0_6_0, c0_6_1, c0_6_2, c0_6_3, c0_7_0, c0_7_1, c0_7_2, c0_7_3, .osl b2 1 n0_8] => (match dA tI a1, dA tIns a2, dCs tTrace [c0_0_0, c0_0_1, c0_0_2, c0_0_3, c0_0_4, c0_0_5, c0_0_6, c0_0_7, c0_0_8, c0_0_9, c0_0_10, c0_0_11, c0_0_12], dC tI c0_1, dC tI c0_2, dC tI c0_3, dC (.slice tExit) c0_5, dCs tExit [c0_6_0, c0_6_1, c0_6_2, c0_6_3], dCs tExit [c0_7_0, c0_7_1, c0_7_2, c0_7_3], ovecAs 46 tIns H[b1]?, ovecAs 3 tI H[b2]? with
        | some x1, some x2, some y0_0, some y0_1, some y0_2, some y0_3, some y0_5, some y0_6, some y0_7, some y1, some y2 => hres [b0, b1, b2] H (.c (.int .i64 (neutralF y0_0 y1 x1 x2))) [.cells 136 (fldC y0_0 y0_1 y0_2 y0_3 n0_4 y0_5 y0_6 y0_7 n0_8), .ovec 46 tIns y1, .ovec 3 tI y2]
        | _, _, _, _, _, _, _, _, _, _, _ => none)
      | _ => none
    | 136, [.one (.c (.ptr b0 0 0 0)), a1, a2] => match cellsAs 136 H[b0]? with
      | some [c0_0_0, c0_0_1, c0_0_2, c0_0_3, c0_0_4, c0_0_5, c0_0_6, c0_0_7, c0_0_8, c0_0_9, c0_0_10, c0_0_11, c0_0_12, c0_1, c0_2, c0_3, .osl b1 8 n0_4, c0_5, c0_6_0, c0_6_1, c0_6_2, c0_6_3, c0_7_0, c0_7_1, c0_7_2, c0_7_3, .osl b2 1 n0_8] => (match dA tI a1, dA tVal a2, dCs tTrace [c0_0_0, c0_0_1, c0_0_2, c0_0_3, c0_0_4, c0_0_5, c0_0_6, c0_0_7, c0_0_8, c0_0_9, c0_0_10, c0_0_11, c0_0_12], dC tI c0_1, dC tI c0_2, dC tI c0_3, dC (.slice tExit) c0_5, dCs tExit [c0_6_0, c0_6_1, c0_6_2, c0_6_3], dCs tExit [c0_7_0, c0_7_1, c0_7_2, c0_7_3], ovecAs 46 tIns H[b1]?, ovecAs 3 tI H[b2]? with
        | some x1, some x2, some y0_0, some y0_1, some y0_2, some y0_3, some y0_5, some y0_6, some y0_7, some y1, some y2 => hres [b0, b1, b2] H (.c (.bool (isV y1 x1 x2))) [.cells 136 (fldC y0_0 y0_1 y0_2 y0_3 n0_4 y0_5 y0_6 y0_7 n0_8), .ovec 46 tIns y1, .ovec 3 tI y2]
        | _, _, _, _, _, _, _, _, _, _, _ => none)
      | _ => none
    | 137, [.one (.c (.ptr b0 0 0 0)), a1, a2] => match cellsAs 136 H[b0]? with
      | some [c0_0_0, c0_0_1, c0_0_2, c0_0_3, c0_0_4, c0_0_5, c0_0_6, c0_0_7, c0_0_8, c0_0_9, c0_0_10, c0_0_11, c0_0_12, c0_1, c0_2, c0_3, .osl b1 8 n0_4, c0_5, c0_6_0, c0_6_1, c0_6_2, c0_6_3, c0_7_0, c0_7_1, c0_7_2, c0_7_3, .osl b2 1 n0_8] => (match dA tI a1, dA tI a2, dCs tTrace [c0_0_0, c0_0_1, c0_0_2, c0_0_3, c0_0_4, c0_0_5, c0_0_6, c0_0_7, c0_0_8, c0_0_9, c0_0_10, c0_0_11, c0_0_12], dC tI c0_1, dC tI c0_2, dC tI c0_3, dC (.slice tExit) c0_5, dCs tExit [c0_6_0, c0_6_1, c0_6_2, c0_6_3], dCs tExit [c0_7_0, c0_7_1, c0_7_2, c0_7_3], ovecAs 46 tIns H[b1]?, ovecAs 3 tI H[b2]? with
        | some x1, some x2, some y0_0, some y0_1, some y0_2, some y0_3, some y0_5, some y0_6, some y0_7, some y1, some y2 => hres [b0, b1, b2] H (.c (.bool (fwholeB y0_0 x1 x2))) [.cells 136 (fldC y0_0 y0_1 y0_2 y0_3 n0_4 y0_5 y0_6 y0_7 n0_8), .ovec 46 tIns y1, .ovec 3 tI y2]
        | _, _, _, _, _, _, _, _, _, _, _ => none)
      | _ => none
    | 138, [.one (.c (.ptr b0 0 0 0)), a1, a2] => match cellsAs 136 H[b0]? with
      | some [c0_0_0, c0_0_1, c0_0_2, c0_0_3, c0_0_4, c0_0_5, c0_0_6, c0_0_7, c0_0_8, c0_0_9, c0_0_10, c0_0_11, c0_0_12, c0_1, c0_2, c0_3, .osl b1 8 n0_4, c0_5, c0_6_0, c0_6_1, c0_6_2, c0_6_3, c0_7_0, c0_7_1, c0_7_2, c0_7_3, .osl b2 1 n0_8] => (match dA tI a1, dA tVal a2, dCs tTrace [c0_0_0, c0_0_1, c0_0_2, c0_0_3, c0_0_4, c0_0_5, c0_0_6, c0_0_7, c0_0_8, c0_0_9, c0_0_10, c0_0_11, c0_0_12], dC tI c0_1, dC tI c0_2, dC tI c0_3, dC (.slice tExit) c0_5, dCs tExit [c0_6_0, c0_6_1, c0_6_2, c0_6_3], dCs tExit [c0_7_0, c0_7_1, c0_7_2, c0_7_3], ovecAs 46 tIns H[b1]?, ovecAs 3 tI H[b2]? with
        | some x1, some x2, some y0_0, some y0_1, some y0_2, some y0_3, some y0_5, some y0_6, some y0_7, some y1, some y2 => hres [b0, b1, b2] H (.tup []) [.cells 136 (fldC y0_0 y0_1 y0_2 y0_3 n0_4 y0_5 y0_6 y0_7 n0_8), .ovec 46 tIns (y1.set (Int.toNat x1) (constI x2)), .ovec 3 tI y2]
        | _, _, _, _, _, _, _, _, _, _, _ => none)
      | _ => none
    | 139, [.one (.c (.ptr b0 0 0 0)), a1, a2] => match cellsAs 136 H[b0]? with
      | some [c0_0_0, c0_0_1, c0_0_2, c0_0_3, c0_0_4, c0_0_5, c0_0_6, c0_0_7, c0_0_8, c0_0_9, c0_0_10, c0_0_11, c0_0_12, c0_1, c0_2, c0_3, .osl b1 8 n0_4, c0_5, c0_6_0, c0_6_1, c0_6_2, c0_6_3, c0_7_0, c0_7_1, c0_7_2, c0_7_3, .osl b2 1 n0_8] => (match dA tI a1, dA tIns a2, dCs tTrace [c0_0_0, c0_0_1, c0_0_2, c0_0_3, c0_0_4, c0_0_5, c0_0_6, c0_0_7, c0_0_8, c0_0_9, c0_0_10, c0_0_11, c0_0_12], dC tI c0_1, dC tI c0_2, dC tI c0_3, dC (.slice tExit) c0_5, dCs tExit [c0_6_0, c0_6_1, c0_6_2, c0_6_3], dCs tExit [c0_7_0, c0_7_1, c0_7_2, c0_7_3], ovecAs 46 tIns H[b1]?, ovecAs 3 tI H[b2]? with
        | some x1, some x2, some y0_0, some y0_1, some y0_2, some y0_3, some y0_5, some y0_6, some y0_7, some y1, some y2 => hres [b0, b1, b2] H (.c (.bool ((twiceV y0_0 x1 x2).isSome))) [.cells 136 (fldC y0_0 y0_1 y0_2 y0_3 n0_4 y0_5 y0_6 y0_7 n0_8), .ovec 46 tIns (twiceI y0_0 y1 x1 x2), .ovec 3 tI y2]
        | _, _, _, _, _, _, _, _, _, _, _ => none)
      | _ => none
    | _, _ => none
def two_lv : LV := ⟨([]), []⟩
abbrev bEf6 : AB := .cells 44 [.int .i64 (((2 : Int), 0) : EVal).1, .int .i64 (((2 : Int), 0) : EVal).2]
noncomputable def two_T (t : ETrace) (f1 : Int) (f2 : Int) (f3 : Int) (k : Nat) (ex : List EExit) (tu : EExit) (ba : EExit) (n : Nat) (ins : List EIns) (to : List Int) (i : Int) (x : EIns) : Tree :=
  .callH 103 [.c (.ptr 0 0 0 0), .c (.int .i64 i), .agg (Ty.enc tIns x)] [.cells 136 (fldC t f1 f2 f3 k ex tu ba n), .ovec 46 tIns ins, .ovec 3 tI to, .cells 46 (Ty.enc tIns x)] (.c (.bool (reckB ins x))) [.cells 136 (fldC t f1 f2 f3 k ex tu ba n), .ovec 46 tIns (reckI ins i x), .ovec 3 tI to, .cells 46 (Ty.enc tIns x)] [0, 1, 2] <|
  .ite (reckB ins x)
  (.ret (.tup []) [.cells 136 (fldC t f1 f2 f3 k ex tu ba n), .ovec 46 tIns (reckI ins i x), .ovec 3 tI to, .cells 46 (Ty.enc tIns x)])
  (.callH 134 [.c (.ptr 0 0 0 0), .c (.int .i64 i), .agg (Ty.enc tIns x)] [.cells 136 (fldC t f1 f2 f3 k ex tu ba n), .ovec 46 tIns (reckI ins i x), .ovec 3 tI to, .cells 46 (Ty.enc tIns x)] (.c (.int .i64 (neutralF t (reckI ins i x) i x))) [.cells 136 (fldC t f1 f2 f3 k ex tu ba n), .ovec 46 tIns (reckI ins i x), .ovec 3 tI to, .cells 46 (Ty.enc tIns x)] [0, 1, 2] <|
   .ite (decide ((0 : Int) ≤ neutralF t (reckI ins i x) i x))
   (.need ((0 : Int) ≤ i ∧ (i : Int) < ((n : Nat) : Int)) <|
    .need ((Int.toNat i) < to.length) <|
    .ret (.tup []) [.cells 136 (fldC t f1 f2 f3 k ex tu ba n), .ovec 46 tIns (reckI ins i x), .ovec 3 tI (to.set (Int.toNat i) (neutralF t (reckI ins i x) i x)), .cells 46 (Ty.enc tIns x)])
   (.call 135 [.c (.int .i64 0)] false (.agg bEf8) <|
    .ite (decide (x.2.2.2.2.1 = 5))
    (.callH 136 [.c (.ptr 0 0 0 0), .c (.int .i64 x.2.1), .agg bEf8] [.cells 136 (fldC t f1 f2 f3 k ex tu ba n), .ovec 46 tIns (reckI ins i x), .ovec 3 tI to, .cells 46 (Ty.enc tIns x), bEf6] (.c (.bool (isV (reckI ins i x) x.2.1 (((2 : Int), 0) : EVal)))) [.cells 136 (fldC t f1 f2 f3 k ex tu ba n), .ovec 46 tIns (reckI ins i x), .ovec 3 tI to, .cells 46 (Ty.enc tIns x), bEf6] [0, 1, 2] <|
     .ite (isV (reckI ins i x) x.2.1 (((2 : Int), 0) : EVal))
     (.callH 137 [.c (.ptr 0 0 0 0), .c (.int .i64 x.2.2.1), .c (.int .i64 i)] [.cells 136 (fldC t f1 f2 f3 k ex tu ba n), .ovec 46 tIns (reckI ins i x), .ovec 3 tI to, .cells 46 (Ty.enc tIns x), bEf6] (.c (.bool (fwholeB t x.2.2.1 i))) [.cells 136 (fldC t f1 f2 f3 k ex tu ba n), .ovec 46 tIns (reckI ins i x), .ovec 3 tI to, .cells 46 (Ty.enc tIns x), bEf6] [0, 1, 2] <|
      .ite (fwholeB t x.2.2.1 i)
      (.callH 138 [.c (.ptr 0 0 0 0), .c (.int .i64 i), .agg bEf8] [.cells 136 (fldC t f1 f2 f3 k ex tu ba n), .ovec 46 tIns (reckI ins i x), .ovec 3 tI to, .cells 46 (Ty.enc tIns x), bEf6] (.tup []) [.cells 136 (fldC t f1 f2 f3 k ex tu ba n), .ovec 46 tIns ((reckI ins i x).set (Int.toNat i) (constI (((2 : Int), 0) : EVal))), .ovec 3 tI to, .cells 46 (Ty.enc tIns x), bEf6] [0, 1, 2] <|
       .ret (.tup []) [.cells 136 (fldC t f1 f2 f3 k ex tu ba n), .ovec 46 tIns ((reckI ins i x).set (Int.toNat i) (constI (((2 : Int), 0) : EVal))), .ovec 3 tI to, .cells 46 (Ty.enc tIns x), bEf6])
      (.callH 136 [.c (.ptr 0 0 0 0), .c (.int .i64 x.2.2.1), .agg bEf8] [.cells 136 (fldC t f1 f2 f3 k ex tu ba n), .ovec 46 tIns (reckI ins i x), .ovec 3 tI to, .cells 46 (Ty.enc tIns x), bEf6] (.c (.bool (isV (reckI ins i x) x.2.2.1 (((2 : Int), 0) : EVal)))) [.cells 136 (fldC t f1 f2 f3 k ex tu ba n), .ovec 46 tIns (reckI ins i x), .ovec 3 tI to, .cells 46 (Ty.enc tIns x), bEf6] [0, 1, 2] <|
       .ite (isV (reckI ins i x) x.2.2.1 (((2 : Int), 0) : EVal))
       (.callH 137 [.c (.ptr 0 0 0 0), .c (.int .i64 x.2.1), .c (.int .i64 i)] [.cells 136 (fldC t f1 f2 f3 k ex tu ba n), .ovec 46 tIns (reckI ins i x), .ovec 3 tI to, .cells 46 (Ty.enc tIns x), bEf6] (.c (.bool (fwholeB t x.2.1 i))) [.cells 136 (fldC t f1 f2 f3 k ex tu ba n), .ovec 46 tIns (reckI ins i x), .ovec 3 tI to, .cells 46 (Ty.enc tIns x), bEf6] [0, 1, 2] <|
        .ite (fwholeB t x.2.1 i)
        (.callH 138 [.c (.ptr 0 0 0 0), .c (.int .i64 i), .agg bEf8] [.cells 136 (fldC t f1 f2 f3 k ex tu ba n), .ovec 46 tIns (reckI ins i x), .ovec 3 tI to, .cells 46 (Ty.enc tIns x), bEf6] (.tup []) [.cells 136 (fldC t f1 f2 f3 k ex tu ba n), .ovec 46 tIns ((reckI ins i x).set (Int.toNat i) (constI (((2 : Int), 0) : EVal))), .ovec 3 tI to, .cells 46 (Ty.enc tIns x), bEf6] [0, 1, 2] <|
         .ret (.tup []) [.cells 136 (fldC t f1 f2 f3 k ex tu ba n), .ovec 46 tIns ((reckI ins i x).set (Int.toNat i) (constI (((2 : Int), 0) : EVal))), .ovec 3 tI to, .cells 46 (Ty.enc tIns x), bEf6])
        (.ite (decide (x.2.1 = x.2.2.1))
         (.callH 139 [.c (.ptr 0 0 0 0), .c (.int .i64 i), .agg (Ty.enc tIns x)] [.cells 136 (fldC t f1 f2 f3 k ex tu ba n), .ovec 46 tIns (reckI ins i x), .ovec 3 tI to, .cells 46 (Ty.enc tIns x), bEf6] (.c (.bool (twiceV t i x).isSome)) [.cells 136 (fldC t f1 f2 f3 k ex tu ba n), .ovec 46 tIns (twiceI t (reckI ins i x) i x), .ovec 3 tI to, .cells 46 (Ty.enc tIns x), bEf6] [0, 1, 2] <|
          .ret (.tup []) [.cells 136 (fldC t f1 f2 f3 k ex tu ba n), .ovec 46 tIns (twiceI t (reckI ins i x) i x), .ovec 3 tI to, .cells 46 (Ty.enc tIns x), bEf6])
         (.ret (.tup []) [.cells 136 (fldC t f1 f2 f3 k ex tu ba n), .ovec 46 tIns (reckI ins i x), .ovec 3 tI to, .cells 46 (Ty.enc tIns x), bEf6])))
       (.ite (decide (x.2.1 = x.2.2.1))
        (.callH 139 [.c (.ptr 0 0 0 0), .c (.int .i64 i), .agg (Ty.enc tIns x)] [.cells 136 (fldC t f1 f2 f3 k ex tu ba n), .ovec 46 tIns (reckI ins i x), .ovec 3 tI to, .cells 46 (Ty.enc tIns x), bEf6] (.c (.bool (twiceV t i x).isSome)) [.cells 136 (fldC t f1 f2 f3 k ex tu ba n), .ovec 46 tIns (twiceI t (reckI ins i x) i x), .ovec 3 tI to, .cells 46 (Ty.enc tIns x), bEf6] [0, 1, 2] <|
         .ret (.tup []) [.cells 136 (fldC t f1 f2 f3 k ex tu ba n), .ovec 46 tIns (twiceI t (reckI ins i x) i x), .ovec 3 tI to, .cells 46 (Ty.enc tIns x), bEf6])
        (.ret (.tup []) [.cells 136 (fldC t f1 f2 f3 k ex tu ba n), .ovec 46 tIns (reckI ins i x), .ovec 3 tI to, .cells 46 (Ty.enc tIns x), bEf6]))))
     (.callH 136 [.c (.ptr 0 0 0 0), .c (.int .i64 x.2.2.1), .agg bEf8] [.cells 136 (fldC t f1 f2 f3 k ex tu ba n), .ovec 46 tIns (reckI ins i x), .ovec 3 tI to, .cells 46 (Ty.enc tIns x), bEf6] (.c (.bool (isV (reckI ins i x) x.2.2.1 (((2 : Int), 0) : EVal)))) [.cells 136 (fldC t f1 f2 f3 k ex tu ba n), .ovec 46 tIns (reckI ins i x), .ovec 3 tI to, .cells 46 (Ty.enc tIns x), bEf6] [0, 1, 2] <|
      .ite (isV (reckI ins i x) x.2.2.1 (((2 : Int), 0) : EVal))
      (.callH 137 [.c (.ptr 0 0 0 0), .c (.int .i64 x.2.1), .c (.int .i64 i)] [.cells 136 (fldC t f1 f2 f3 k ex tu ba n), .ovec 46 tIns (reckI ins i x), .ovec 3 tI to, .cells 46 (Ty.enc tIns x), bEf6] (.c (.bool (fwholeB t x.2.1 i))) [.cells 136 (fldC t f1 f2 f3 k ex tu ba n), .ovec 46 tIns (reckI ins i x), .ovec 3 tI to, .cells 46 (Ty.enc tIns x), bEf6] [0, 1, 2] <|
       .ite (fwholeB t x.2.1 i)
       (.callH 138 [.c (.ptr 0 0 0 0), .c (.int .i64 i), .agg bEf8] [.cells 136 (fldC t f1 f2 f3 k ex tu ba n), .ovec 46 tIns (reckI ins i x), .ovec 3 tI to, .cells 46 (Ty.enc tIns x), bEf6] (.tup []) [.cells 136 (fldC t f1 f2 f3 k ex tu ba n), .ovec 46 tIns ((reckI ins i x).set (Int.toNat i) (constI (((2 : Int), 0) : EVal))), .ovec 3 tI to, .cells 46 (Ty.enc tIns x), bEf6] [0, 1, 2] <|
        .ret (.tup []) [.cells 136 (fldC t f1 f2 f3 k ex tu ba n), .ovec 46 tIns ((reckI ins i x).set (Int.toNat i) (constI (((2 : Int), 0) : EVal))), .ovec 3 tI to, .cells 46 (Ty.enc tIns x), bEf6])
       (.ite (decide (x.2.1 = x.2.2.1))
        (.callH 139 [.c (.ptr 0 0 0 0), .c (.int .i64 i), .agg (Ty.enc tIns x)] [.cells 136 (fldC t f1 f2 f3 k ex tu ba n), .ovec 46 tIns (reckI ins i x), .ovec 3 tI to, .cells 46 (Ty.enc tIns x), bEf6] (.c (.bool (twiceV t i x).isSome)) [.cells 136 (fldC t f1 f2 f3 k ex tu ba n), .ovec 46 tIns (twiceI t (reckI ins i x) i x), .ovec 3 tI to, .cells 46 (Ty.enc tIns x), bEf6] [0, 1, 2] <|
         .ret (.tup []) [.cells 136 (fldC t f1 f2 f3 k ex tu ba n), .ovec 46 tIns (twiceI t (reckI ins i x) i x), .ovec 3 tI to, .cells 46 (Ty.enc tIns x), bEf6])
        (.ret (.tup []) [.cells 136 (fldC t f1 f2 f3 k ex tu ba n), .ovec 46 tIns (reckI ins i x), .ovec 3 tI to, .cells 46 (Ty.enc tIns x), bEf6])))
      (.ite (decide (x.2.1 = x.2.2.1))
       (.callH 139 [.c (.ptr 0 0 0 0), .c (.int .i64 i), .agg (Ty.enc tIns x)] [.cells 136 (fldC t f1 f2 f3 k ex tu ba n), .ovec 46 tIns (reckI ins i x), .ovec 3 tI to, .cells 46 (Ty.enc tIns x), bEf6] (.c (.bool (twiceV t i x).isSome)) [.cells 136 (fldC t f1 f2 f3 k ex tu ba n), .ovec 46 tIns (twiceI t (reckI ins i x) i x), .ovec 3 tI to, .cells 46 (Ty.enc tIns x), bEf6] [0, 1, 2] <|
        .ret (.tup []) [.cells 136 (fldC t f1 f2 f3 k ex tu ba n), .ovec 46 tIns (twiceI t (reckI ins i x) i x), .ovec 3 tI to, .cells 46 (Ty.enc tIns x), bEf6])
       (.ret (.tup []) [.cells 136 (fldC t f1 f2 f3 k ex tu ba n), .ovec 46 tIns (reckI ins i x), .ovec 3 tI to, .cells 46 (Ty.enc tIns x), bEf6]))))
    (.ite (decide (x.2.1 = x.2.2.1))
     (.callH 139 [.c (.ptr 0 0 0 0), .c (.int .i64 i), .agg (Ty.enc tIns x)] [.cells 136 (fldC t f1 f2 f3 k ex tu ba n), .ovec 46 tIns (reckI ins i x), .ovec 3 tI to, .cells 46 (Ty.enc tIns x), bEf6] (.c (.bool (twiceV t i x).isSome)) [.cells 136 (fldC t f1 f2 f3 k ex tu ba n), .ovec 46 tIns (twiceI t (reckI ins i x) i x), .ovec 3 tI to, .cells 46 (Ty.enc tIns x), bEf6] [0, 1, 2] <|
      .ret (.tup []) [.cells 136 (fldC t f1 f2 f3 k ex tu ba n), .ovec 46 tIns (twiceI t (reckI ins i x) i x), .ovec 3 tI to, .cells 46 (Ty.enc tIns x), bEf6])
     (.ret (.tup []) [.cells 136 (fldC t f1 f2 f3 k ex tu ba n), .ovec 46 tIns (reckI ins i x), .ovec 3 tI to, .cells 46 (Ty.enc tIns x), bEf6]))))
theorem two_T_ok (t : ETrace) (f1 : Int) (f2 : Int) (f3 : Int) (k : Nat) (ex : List EExit) (tu : EExit) (ba : EExit) (n : Nat) (ins : List EIns) (to : List Int) (i : Int) (x : EIns) : aRun Tryd.prog oc_two Tryd.f102 two_lv 3000 [.code (bodyOf Tryd.f102)] ([.c (.ptr 0 0 0 0), .c (.int .i64 i), .agg (tIns.enc x)] ++ List.replicate (Func.ntmps Tryd.f102 - 3) .junk) [.cells 136 (fldC t f1 f2 f3 k ex tu ba n), .ovec 46 tIns ins, .ovec 3 tI to] = two_T t f1 f2 f3 k ex tu ba n ins to i x := by kernel_rfl
theorem two_fun (t : ETrace) (f1 : Int) (f2 : Int) (f3 : Int) (k : Nat) (ex : List EExit) (tu : EExit) (ba : EExit) (n : Nat) (ins : List EIns) (to : List Int) (i : Int) (x : EIns) (hi : 0 ≤ i ∧ i < (k : Int)) (ha : 0 ≤ x.2.1 ∧ x.2.1 < (k : Int)) (hb : 0 ≤ x.2.2.1 ∧ x.2.2.1 < (k : Int)) (hk : ins.length = k) (hn : to.length = n) (hin : i < (n : Int)) : AFunH Tryd.prog 102 [.c (.ptr 0 0 0 0), .c (.int .i64 i), .agg (tIns.enc x)] [.cells 136 (fldC t f1 f2 f3 k ex tu ba n), .ovec 46 tIns ins, .ovec 3 tI to] (.tup []) [.cells 136 (fldC t f1 f2 f3 k ex tu ba n), .ovec 46 tIns (twoI t ins i x), .ovec 3 tI (twoT t ins to i x)] (List.range 3) :=
  AFunH.ofL oc_two two_lv 3000 Tryd.func102 mixed rfl (by decide) (Nat.le_of_ble_eq_true rfl) rfl rfl (Nat.le_of_ble_eq_true rfl) _ (two_T_ok t f1 f2 f3 k ex tu ba n ins to i x) fun hF => by
    unfold two_T
    refine g_callH (AFunH.frameB [0, 1, 2] (reck_fun t f1 f2 f3 k ex tu ba n ins to i x (by assumption) (by assumption) (by first | assumption | exact fun _ => hb | (intro q; omega)) (by simp only [reckI_len, hk])) rfl rfl rfl rfl rfl rfl rfl) ?_
    refine g_ite (fun h0 => ?_) (fun h0 => ?_)
    · refine g_fin ?_
      exact g_end [0, 1, 2] (show ∀ k, k < 3 → ([0, 1, 2] : List Nat)[k]? = some k by decide) (by decide) (leAV.refl _) ⟨leB.refl _, ⟨rfl, ⟨rfl, (show (reckI ins i x) = twoI t ins i x from by simp [twoI, twoT, zeroB, h0])⟩⟩, ⟨rfl, ⟨rfl, (show (to) = twoT t ins to i x from by simp [twoI, twoT, zeroB, h0])⟩⟩, trivial⟩
    · refine g_callH (AFunH.frameB [0, 1, 2] (neut_fun t f1 f2 f3 k ex tu ba n (reckI ins i x) to i x (by assumption) (by assumption) (by assumption) (by simp only [reckI_len, hk])) rfl rfl rfl rfl rfl rfl rfl) ?_
      refine g_iteD (fun h1 => ?_) (fun h1 => ?_)
      · refine g_need (by omega) ?_
        refine g_need (by omega) ?_
        refine g_fin ?_
        exact g_end [0, 1, 2] (show ∀ k, k < 3 → ([0, 1, 2] : List Nat)[k]? = some k by decide) (by decide) (leAV.refl _) ⟨leB.refl _, ⟨rfl, ⟨rfl, (show ((reckI ins i x)) = twoI t ins i x from by simp [twoI, twoT, zeroB, h0, h1])⟩⟩, ⟨rfl, ⟨rfl, (show ((to.set (Int.toNat i) (neutralF t (reckI ins i x) i x))) = twoT t ins to i x from by simp [twoI, twoT, zeroB, h0, h1])⟩⟩, trivial⟩
      · refine g_call (numF_fun 0) (fun h => nomatch h) ?_
        refine g_iteD (fun h2 => ?_) (fun h2 => ?_)
        · refine g_callH (AFunH.frameB [0, 1, 2] (isv_fun t f1 f2 f3 k ex tu ba n (reckI ins i x) to x.2.1 (((2 : Int), 0) : EVal) (by assumption) (by simp only [reckI_len, hk])) rfl rfl rfl rfl rfl rfl rfl) ?_
          refine g_ite (fun h3 => ?_) (fun h3 => ?_)
          · refine g_callH (AFunH.frameB [0, 1, 2] (fwhole_fun t f1 f2 f3 k ex tu ba n (reckI ins i x) to x.2.2.1 i) rfl rfl rfl rfl rfl rfl rfl) ?_
            refine g_ite (fun h4 => ?_) (fun h4 => ?_)
            · refine g_callH (AFunH.frameB [0, 1, 2] (become_fun t f1 f2 f3 k ex tu ba n (reckI ins i x) to i (((2 : Int), 0) : EVal) (by assumption) (by simp only [reckI_len, hk])) rfl rfl rfl rfl rfl rfl rfl) ?_
              refine g_fin ?_
              exact g_end [0, 1, 2] (show ∀ k, k < 3 → ([0, 1, 2] : List Nat)[k]? = some k by decide) (by decide) (leAV.refl _) ⟨leB.refl _, ⟨rfl, ⟨rfl, (show ((reckI ins i x).set (Int.toNat i) (constI (((2 : Int), 0) : EVal))) = twoI t ins i x from by simp [twoI, twoT, zeroB, h0, h1, h2, h3, h4])⟩⟩, ⟨rfl, ⟨rfl, (show (to) = twoT t ins to i x from by simp [twoI, twoT, zeroB, h0, h1, h2, h3, h4])⟩⟩, trivial⟩
            · refine g_callH (AFunH.frameB [0, 1, 2] (isv_fun t f1 f2 f3 k ex tu ba n (reckI ins i x) to x.2.2.1 (((2 : Int), 0) : EVal) (by assumption) (by simp only [reckI_len, hk])) rfl rfl rfl rfl rfl rfl rfl) ?_
              refine g_ite (fun h5 => ?_) (fun h5 => ?_)
              · refine g_callH (AFunH.frameB [0, 1, 2] (fwhole_fun t f1 f2 f3 k ex tu ba n (reckI ins i x) to x.2.1 i) rfl rfl rfl rfl rfl rfl rfl) ?_
                refine g_ite (fun h6 => ?_) (fun h6 => ?_)
                · refine g_callH (AFunH.frameB [0, 1, 2] (become_fun t f1 f2 f3 k ex tu ba n (reckI ins i x) to i (((2 : Int), 0) : EVal) (by assumption) (by simp only [reckI_len, hk])) rfl rfl rfl rfl rfl rfl rfl) ?_
                  refine g_fin ?_
                  exact g_end [0, 1, 2] (show ∀ k, k < 3 → ([0, 1, 2] : List Nat)[k]? = some k by decide) (by decide) (leAV.refl _) ⟨leB.refl _, ⟨rfl, ⟨rfl, (show ((reckI ins i x).set (Int.toNat i) (constI (((2 : Int), 0) : EVal))) = twoI t ins i x from by simp [twoI, twoT, zeroB, h0, h1, h2, h3, h4, h5, h6])⟩⟩, ⟨rfl, ⟨rfl, (show (to) = twoT t ins to i x from by simp [twoI, twoT, zeroB, h0, h1, h2, h3, h4, h5, h6])⟩⟩, trivial⟩
                · refine g_iteD (fun h7 => ?_) (fun h7 => ?_)
                  · refine g_callH (AFunH.frameB [0, 1, 2] (twice_fun t f1 f2 f3 k ex tu ba n (reckI ins i x) to i x (by assumption) (by simp only [reckI_len, hk])) rfl rfl rfl rfl rfl rfl rfl) ?_
                    refine g_fin ?_
                    exact g_end [0, 1, 2] (show ∀ k, k < 3 → ([0, 1, 2] : List Nat)[k]? = some k by decide) (by decide) (leAV.refl _) ⟨leB.refl _, ⟨rfl, ⟨rfl, (show (twiceI t (reckI ins i x) i x) = twoI t ins i x from by simp [twoI, twoT, zeroB, h0, h1, h2, h3, h4, h5, h6, h7])⟩⟩, ⟨rfl, ⟨rfl, (show (to) = twoT t ins to i x from by simp [twoI, twoT, zeroB, h0, h1, h2, h3, h4, h5, h6, h7])⟩⟩, trivial⟩
                  · refine g_fin ?_
                    exact g_end [0, 1, 2] (show ∀ k, k < 3 → ([0, 1, 2] : List Nat)[k]? = some k by decide) (by decide) (leAV.refl _) ⟨leB.refl _, ⟨rfl, ⟨rfl, (show ((reckI ins i x)) = twoI t ins i x from by simp [twoI, twoT, zeroB, h0, h1, h2, h3, h4, h5, h6, h7])⟩⟩, ⟨rfl, ⟨rfl, (show (to) = twoT t ins to i x from by simp [twoI, twoT, zeroB, h0, h1, h2, h3, h4, h5, h6, h7])⟩⟩, trivial⟩
              · refine g_iteD (fun h6 => ?_) (fun h6 => ?_)
                · refine g_callH (AFunH.frameB [0, 1, 2] (twice_fun t f1 f2 f3 k ex tu ba n (reckI ins i x) to i x (by assumption) (by simp only [reckI_len, hk])) rfl rfl rfl rfl rfl rfl rfl) ?_
                  refine g_fin ?_
                  exact g_end [0, 1, 2] (show ∀ k, k < 3 → ([0, 1, 2] : List Nat)[k]? = some k by decide) (by decide) (leAV.refl _) ⟨leB.refl _, ⟨rfl, ⟨rfl, (show (twiceI t (reckI ins i x) i x) = twoI t ins i x from by simp [twoI, twoT, zeroB, h0, h1, h2, h3, h4, h5, h6])⟩⟩, ⟨rfl, ⟨rfl, (show (to) = twoT t ins to i x from by simp [twoI, twoT, zeroB, h0, h1, h2, h3, h4, h5, h6])⟩⟩, trivial⟩
                · refine g_fin ?_
                  exact g_end [0, 1, 2] (show ∀ k, k < 3 → ([0, 1, 2] : List Nat)[k]? = some k by decide) (by decide) (leAV.refl _) ⟨leB.refl _, ⟨rfl, ⟨rfl, (show ((reckI ins i x)) = twoI t ins i x from by simp [twoI, twoT, zeroB, h0, h1, h2, h3, h4, h5, h6])⟩⟩, ⟨rfl, ⟨rfl, (show (to) = twoT t ins to i x from by simp [twoI, twoT, zeroB, h0, h1, h2, h3, h4, h5, h6])⟩⟩, trivial⟩
          · refine g_callH (AFunH.frameB [0, 1, 2] (isv_fun t f1 f2 f3 k ex tu ba n (reckI ins i x) to x.2.2.1 (((2 : Int), 0) : EVal) (by assumption) (by simp only [reckI_len, hk])) rfl rfl rfl rfl rfl rfl rfl) ?_
            refine g_ite (fun h4 => ?_) (fun h4 => ?_)
            · refine g_callH (AFunH.frameB [0, 1, 2] (fwhole_fun t f1 f2 f3 k ex tu ba n (reckI ins i x) to x.2.1 i) rfl rfl rfl rfl rfl rfl rfl) ?_
              refine g_ite (fun h5 => ?_) (fun h5 => ?_)
              · refine g_callH (AFunH.frameB [0, 1, 2] (become_fun t f1 f2 f3 k ex tu ba n (reckI ins i x) to i (((2 : Int), 0) : EVal) (by assumption) (by simp only [reckI_len, hk])) rfl rfl rfl rfl rfl rfl rfl) ?_
                refine g_fin ?_
                exact g_end [0, 1, 2] (show ∀ k, k < 3 → ([0, 1, 2] : List Nat)[k]? = some k by decide) (by decide) (leAV.refl _) ⟨leB.refl _, ⟨rfl, ⟨rfl, (show ((reckI ins i x).set (Int.toNat i) (constI (((2 : Int), 0) : EVal))) = twoI t ins i x from by simp [twoI, twoT, zeroB, h0, h1, h2, h3, h4, h5])⟩⟩, ⟨rfl, ⟨rfl, (show (to) = twoT t ins to i x from by simp [twoI, twoT, zeroB, h0, h1, h2, h3, h4, h5])⟩⟩, trivial⟩
              · refine g_iteD (fun h6 => ?_) (fun h6 => ?_)
                · refine g_callH (AFunH.frameB [0, 1, 2] (twice_fun t f1 f2 f3 k ex tu ba n (reckI ins i x) to i x (by assumption) (by simp only [reckI_len, hk])) rfl rfl rfl rfl rfl rfl rfl) ?_
                  refine g_fin ?_
                  exact g_end [0, 1, 2] (show ∀ k, k < 3 → ([0, 1, 2] : List Nat)[k]? = some k by decide) (by decide) (leAV.refl _) ⟨leB.refl _, ⟨rfl, ⟨rfl, (show (twiceI t (reckI ins i x) i x) = twoI t ins i x from by simp_all [twoI, twoT, zeroB])⟩⟩, ⟨rfl, ⟨rfl, (show (to) = twoT t ins to i x from by simp [twoI, twoT, zeroB, h0, h1, h2, h3, h4, h5, h6])⟩⟩, trivial⟩
                · refine g_fin ?_
                  exact g_end [0, 1, 2] (show ∀ k, k < 3 → ([0, 1, 2] : List Nat)[k]? = some k by decide) (by decide) (leAV.refl _) ⟨leB.refl _, ⟨rfl, ⟨rfl, (show ((reckI ins i x)) = twoI t ins i x from by simp [twoI, twoT, zeroB, h0, h1, h2, h3, h4, h5, h6])⟩⟩, ⟨rfl, ⟨rfl, (show (to) = twoT t ins to i x from by simp [twoI, twoT, zeroB, h0, h1, h2, h3, h4, h5, h6])⟩⟩, trivial⟩
            · refine g_iteD (fun h5 => ?_) (fun h5 => ?_)
              · refine g_callH (AFunH.frameB [0, 1, 2] (twice_fun t f1 f2 f3 k ex tu ba n (reckI ins i x) to i x (by assumption) (by simp only [reckI_len, hk])) rfl rfl rfl rfl rfl rfl rfl) ?_
                refine g_fin ?_
                exact g_end [0, 1, 2] (show ∀ k, k < 3 → ([0, 1, 2] : List Nat)[k]? = some k by decide) (by decide) (leAV.refl _) ⟨leB.refl _, ⟨rfl, ⟨rfl, (show (twiceI t (reckI ins i x) i x) = twoI t ins i x from by simp [twoI, twoT, zeroB, h0, h1, h2, h3, h4, h5])⟩⟩, ⟨rfl, ⟨rfl, (show (to) = twoT t ins to i x from by simp [twoI, twoT, zeroB, h0, h1, h2, h3, h4, h5])⟩⟩, trivial⟩
              · refine g_fin ?_
                exact g_end [0, 1, 2] (show ∀ k, k < 3 → ([0, 1, 2] : List Nat)[k]? = some k by decide) (by decide) (leAV.refl _) ⟨leB.refl _, ⟨rfl, ⟨rfl, (show ((reckI ins i x)) = twoI t ins i x from by simp [twoI, twoT, zeroB, h0, h1, h2, h3, h4, h5])⟩⟩, ⟨rfl, ⟨rfl, (show (to) = twoT t ins to i x from by simp [twoI, twoT, zeroB, h0, h1, h2, h3, h4, h5])⟩⟩, trivial⟩
        · refine g_iteD (fun h3 => ?_) (fun h3 => ?_)
          · refine g_callH (AFunH.frameB [0, 1, 2] (twice_fun t f1 f2 f3 k ex tu ba n (reckI ins i x) to i x (by assumption) (by simp only [reckI_len, hk])) rfl rfl rfl rfl rfl rfl rfl) ?_
            refine g_fin ?_
            exact g_end [0, 1, 2] (show ∀ k, k < 3 → ([0, 1, 2] : List Nat)[k]? = some k by decide) (by decide) (leAV.refl _) ⟨leB.refl _, ⟨rfl, ⟨rfl, (show (twiceI t (reckI ins i x) i x) = twoI t ins i x from by simp [twoI, twoT, zeroB, h0, h1, h2, h3])⟩⟩, ⟨rfl, ⟨rfl, (show (to) = twoT t ins to i x from by simp [twoI, twoT, zeroB, h0, h1, h2, h3])⟩⟩, trivial⟩
          · refine g_fin ?_
            exact g_end [0, 1, 2] (show ∀ k, k < 3 → ([0, 1, 2] : List Nat)[k]? = some k by decide) (by decide) (leAV.refl _) ⟨leB.refl _, ⟨rfl, ⟨rfl, (show ((reckI ins i x)) = twoI t ins i x from by simp [twoI, twoT, zeroB, h0, h1, h2, h3])⟩⟩, ⟨rfl, ⟨rfl, (show (to) = twoT t ins to i x from by simp [twoI, twoT, zeroB, h0, h1, h2, h3])⟩⟩, trivial⟩

def oneX (ins : List EIns) (i : Int) : EIns := ins.getD (Int.toNat i) tIns.dflt
def notnot (t : ETrace) (ins : List EIns) (i : Int) : Bool := if reckB ins (oneX ins i) = true then false else if (oneX ins i).2.2.2.2.1 = 11 then (if (ins.getD (Int.toNat (oneX ins i).2.1) tIns.dflt).1 = 8 then (if (ins.getD (Int.toNat (oneX ins i).2.1) tIns.dflt).2.2.2.2.1 = 11 then decide (kindF t (ins.getD (Int.toNat (oneX ins i).2.1) tIns.dflt).2.1 i = 1) else false) else false) else false
def gone (ins : List EIns) (i : Int) : Bool := if constB ins (oneX ins i).2.1 = true then holdsV (oneX ins i) (constK ins (oneX ins i).2.1) else false
def oneI (t : ETrace) (ins : List EIns) (i : Int) : List EIns := if (oneX ins i).1 = 7 then twoI t ins i (oneX ins i) else if (oneX ins i).1 = 8 then reckI ins i (oneX ins i) else ins
def oneT (t : ETrace) (ins : List EIns) (to : List Int) (i : Int) : List Int := if (oneX ins i).1 = 7 then twoT t ins to i (oneX ins i) else if (oneX ins i).1 = 8 then (if notnot t ins i = true then to.set (Int.toNat i) (ins.getD (Int.toNat (oneX ins i).2.1) tIns.dflt).2.1 else to) else if (oneX ins i).1 = 4 ∨ (oneX ins i).1 = 5 ∨ (oneX ins i).1 = 6 then (if gone ins i = true then to.set (Int.toNat i) (-1) else to) else to
noncomputable def oc_onef : Orc where
  pure := fun f args => match f, args with
    | 21, [a0, a1, a2] => match dA tTrace a0, dA tI a1, dA tI a2 with
      | some x0, some x1, some x2 => some (.c (.int .i64 (kindF x0 x1 x2)))
      | _, _, _ => none
    | 105, [a0, a1] => match dA tIns a0, dA tVal a1 with
      | some x0, some x1 => some (.c (.bool (holdsV x0 x1)))
      | _, _ => none
    | _, _ => none
  heap := fun f args H => match f, args with
    | 102, [.one (.c (.ptr b0 0 0 0)), a1, a2] => match cellsAs 136 H[b0]? with
      | some [c0_0_0, c0_0_1, c0_0_2, c0_0_3, c0_0_4, c0_0_5, c0_0_6, c0_0_7, c0_0_8, c0_0_9, c0_0_10, c0_0_11, c0_0_12, c0_1, c0_2, c0_3, .osl b1 8 n0_4, c0_5, c0_6_0, c0_6_1, c0_6_2, c0_6_3, c0_7_0, c0_7_1, c0_7_2, c0_7_3, .osl b2 1 n0_8] => (match dA tI a1, dA tIns a2, dCs tTrace [c0_0_0, c0_0_1, c0_0_2, c0_0_3, c0_0_4, c0_0_5, c0_0_6, c0_0_7, c0_0_8, c0_0_9, c0_0_10, c0_0_11, c0_0_12], dC tI c0_1, dC tI c0_2, dC tI c0_3, dC (.slice tExit) c0_5, dCs tExit [c0_6_0, c0_6_1, c0_6_2, c0_6_3], dCs tExit [c0_7_0, c0_7_1, c0_7_2, c0_7_3], ovecAs 46 tIns H[b1]?, ovecAs 3 tI H[b2]? with
        | some x1, some x2, some y0_0, some y0_1, some y0_2, some y0_3, some y0_5, some y0_6, some y0_7, some y1, some y2 => hres [b0, b1, b2] H (.tup []) [.cells 136 (fldC y0_0 y0_1 y0_2 y0_3 n0_4 y0_5 y0_6 y0_7 n0_8), .ovec 46 tIns (twoI y0_0 y1 x1 x2), .ovec 3 tI (twoT y0_0 y1 y2 x1 x2)]
        | _, _, _, _, _, _, _, _, _, _, _ => none)
      | _ => none
    | 103, [.one (.c (.ptr b0 0 0 0)), a1, a2] => match cellsAs 136 H[b0]? with
      | some [c0_0_0, c0_0_1, c0_0_2, c0_0_3, c0_0_4, c0_0_5, c0_0_6, c0_0_7, c0_0_8, c0_0_9, c0_0_10, c0_0_11, c0_0_12, c0_1, c0_2, c0_3, .osl b1 8 n0_4, c0_5, c0_6_0, c0_6_1, c0_6_2, c0_6_3, c0_7_0, c0_7_1, c0_7_2, c0_7_3, .osl b2 1 n0_8] => (match dA tI a1, dA tIns a2, dCs tTrace [c0_0_0, c0_0_1, c0_0_2, c0_0_3, c0_0_4, c0_0_5, c0_0_6, c0_0_7, c0_0_8, c0_0_9, c0_0_10, c0_0_11, c0_0_12], dC tI c0_1, dC tI c0_2, dC tI c0_3, dC (.slice tExit) c0_5, dCs tExit [c0_6_0, c0_6_1, c0_6_2, c0_6_3], dCs tExit [c0_7_0, c0_7_1, c0_7_2, c0_7_3], ovecAs 46 tIns H[b1]?, ovecAs 3 tI H[b2]? with
        | some x1, some x2, some y0_0, some y0_1, some y0_2, some y0_3, some y0_5, some y0_6, some y0_7, some y1, some y2 => hres [b0, b1, b2] H (.c (.bool (reckB y1 x2))) [.cells 136 (fldC y0_0 y0_1 y0_2 y0_3 n0_4 y0_5 y0_6 y0_7 n0_8), .ovec 46 tIns (reckI y1 x1 x2), .ovec 3 tI y2]
        | _, _, _, _, _, _, _, _, _, _, _ => none)
      | _ => none
    | 104, [.one (.c (.ptr b0 0 0 0)), a1] => match cellsAs 136 H[b0]? with
      | some [c0_0_0, c0_0_1, c0_0_2, c0_0_3, c0_0_4, c0_0_5, c0_0_6, c0_0_7, c0_0_8, c0_0_9, c0_0_10, c0_0_11, c0_0_12, c0_1, c0_2, c0_3, .osl b1 8 n0_4, c0_5, c0_6_0, c0_6_1, c0_6_2, c0_6_3, c0_7_0, c0_7_1, c0_7_2, c0_7_3, .osl b2 1 n0_8] => (match dA tI a1, dCs tTrace [c0_0_0, c0_0_1, c0_0_2, c0_0_3, c0_0_4, c0_0_5, c0_0_6, c0_0_7, c0_0_8, c0_0_9, c0_0_10, c0_0_11, c0_0_12], dC tI c0_1, dC tI c0_2, dC tI c0_3, dC (.slice tExit) c0_5, dCs tExit [c0_6_0, c0_6_1, c0_6_2, c0_6_3], dCs tExit [c0_7_0, c0_7_1, c0_7_2, c0_7_3], ovecAs 46 tIns H[b1]?, ovecAs 3 tI H[b2]? with
        | some x1, some y0_0, some y0_1, some y0_2, some y0_3, some y0_5, some y0_6, some y0_7, some y1, some y2 => hres [b0, b1, b2] H (.tup [.agg (Ty.enc tVal (constK y1 x1)), .c (.bool (constB y1 x1))]) [.cells 136 (fldC y0_0 y0_1 y0_2 y0_3 n0_4 y0_5 y0_6 y0_7 n0_8), .ovec 46 tIns y1, .ovec 3 tI y2]
        | _, _, _, _, _, _, _, _, _, _ => none)
      | _ => none
    | _, _ => none
def onef_lv : LV := ⟨([]), []⟩
abbrev bEf0 (ins : List EIns) (i : Int) : AB := .cells 46 [.int .i64 (ins.getD (Int.toNat (ins.getD (Int.toNat i) tIns.dflt).2.1) tIns.dflt).1, .int .i64 (ins.getD (Int.toNat (ins.getD (Int.toNat i) tIns.dflt).2.1) tIns.dflt).2.1, .int .i64 (ins.getD (Int.toNat (ins.getD (Int.toNat i) tIns.dflt).2.1) tIns.dflt).2.2.1, .int .i64 (ins.getD (Int.toNat (ins.getD (Int.toNat i) tIns.dflt).2.1) tIns.dflt).2.2.2.1, .int .i64 (ins.getD (Int.toNat (ins.getD (Int.toNat i) tIns.dflt).2.1) tIns.dflt).2.2.2.2.1, .int .i64 (ins.getD (Int.toNat (ins.getD (Int.toNat i) tIns.dflt).2.1) tIns.dflt).2.2.2.2.2.1, .int .i64 (ins.getD (Int.toNat (ins.getD (Int.toNat i) tIns.dflt).2.1) tIns.dflt).2.2.2.2.2.2.1, .int .i64 (ins.getD (Int.toNat (ins.getD (Int.toNat i) tIns.dflt).2.1) tIns.dflt).2.2.2.2.2.2.2]
abbrev bEf2 (ins : List EIns) (i : Int) : AB := .cells 44 [.int .i64 (constK ins (ins.getD (Int.toNat i) tIns.dflt).2.1).1, .int .i64 (constK ins (ins.getD (Int.toNat i) tIns.dflt).2.1).2]
abbrev bEf3 (ins : List EIns) (i : Int) : List CV := [.int .i64 (constK ins (ins.getD (Int.toNat i) tIns.dflt).2.1).1, .int .i64 (constK ins (ins.getD (Int.toNat i) tIns.dflt).2.1).2]
noncomputable def onef_T (t : ETrace) (f1 : Int) (f2 : Int) (f3 : Int) (k : Nat) (ex : List EExit) (tu : EExit) (ba : EExit) (n : Nat) (ins : List EIns) (to : List Int) (i : Int) : Tree :=
  .need ((0 : Int) ≤ i ∧ (i : Int) < ((k : Nat) : Int)) <|
  .need ((Int.toNat i) < ins.length) <|
  .ite (decide ((ins.getD (Int.toNat i) tIns.dflt).1 = 7))
  (.callH 102 [.c (.ptr 0 0 0 0), .c (.int .i64 i), .agg (Ty.enc tIns (oneX ins i))] [.cells 136 (fldC t f1 f2 f3 k ex tu ba n), .ovec 46 tIns ins, .ovec 3 tI to, .cells 46 (Ty.enc tIns (oneX ins i))] (.tup []) [.cells 136 (fldC t f1 f2 f3 k ex tu ba n), .ovec 46 tIns (twoI t ins i (ins.getD (Int.toNat i) tIns.dflt)), .ovec 3 tI (twoT t ins to i (ins.getD (Int.toNat i) tIns.dflt)), .cells 46 (Ty.enc tIns (oneX ins i))] [0, 1, 2] <|
   .ret (.tup []) [.cells 136 (fldC t f1 f2 f3 k ex tu ba n), .ovec 46 tIns (twoI t ins i (ins.getD (Int.toNat i) tIns.dflt)), .ovec 3 tI (twoT t ins to i (ins.getD (Int.toNat i) tIns.dflt)), .cells 46 (Ty.enc tIns (oneX ins i))])
  (.ite (decide ((ins.getD (Int.toNat i) tIns.dflt).1 = 8))
   (.need ((0 : Int) ≤ (ins.getD (Int.toNat i) tIns.dflt).2.1 ∧ ((ins.getD (Int.toNat i) tIns.dflt).2.1 : Int) < ((k : Nat) : Int)) <|
    .need ((Int.toNat (ins.getD (Int.toNat i) tIns.dflt).2.1) < ins.length) <|
    .callH 103 [.c (.ptr 0 0 0 0), .c (.int .i64 i), .agg (Ty.enc tIns (oneX ins i))] [.cells 136 (fldC t f1 f2 f3 k ex tu ba n), .ovec 46 tIns ins, .ovec 3 tI to, .cells 46 (Ty.enc tIns (oneX ins i)), (bEf0 ins i)] (.c (.bool (reckB ins (ins.getD (Int.toNat i) tIns.dflt)))) [.cells 136 (fldC t f1 f2 f3 k ex tu ba n), .ovec 46 tIns (reckI ins i (ins.getD (Int.toNat i) tIns.dflt)), .ovec 3 tI to, .cells 46 (Ty.enc tIns (oneX ins i)), (bEf0 ins i)] [0, 1, 2] <|
    .ite ((!(reckB ins (ins.getD (Int.toNat i) tIns.dflt))))
    (.ite (decide ((ins.getD (Int.toNat i) tIns.dflt).2.2.2.2.1 = 11))
     (.ite (decide ((ins.getD (Int.toNat (ins.getD (Int.toNat i) tIns.dflt).2.1) tIns.dflt).1 = 8))
      (.ite (decide ((ins.getD (Int.toNat (ins.getD (Int.toNat i) tIns.dflt).2.1) tIns.dflt).2.2.2.2.1 = 11))
       (.call 21 [.agg (Ty.enc tTrace t), .c (.int .i64 (ins.getD (Int.toNat (ins.getD (Int.toNat i) tIns.dflt).2.1) tIns.dflt).2.1), .c (.int .i64 i)] false (.c (.int .i64 (kindF t (ins.getD (Int.toNat (ins.getD (Int.toNat i) tIns.dflt).2.1) tIns.dflt).2.1 i))) <|
        .ite (decide (kindF t (ins.getD (Int.toNat (ins.getD (Int.toNat i) tIns.dflt).2.1) tIns.dflt).2.1 i = 1))
        (.need ((0 : Int) ≤ i ∧ (i : Int) < ((n : Nat) : Int)) <|
         .need ((Int.toNat i) < to.length) <|
         .ret (.tup []) [.cells 136 (fldC t f1 f2 f3 k ex tu ba n), .ovec 46 tIns (reckI ins i (ins.getD (Int.toNat i) tIns.dflt)), .ovec 3 tI (to.set (Int.toNat i) (ins.getD (Int.toNat (ins.getD (Int.toNat i) tIns.dflt).2.1) tIns.dflt).2.1), .cells 46 (Ty.enc tIns (oneX ins i)), (bEf0 ins i)])
        (.ret (.tup []) [.cells 136 (fldC t f1 f2 f3 k ex tu ba n), .ovec 46 tIns (reckI ins i (ins.getD (Int.toNat i) tIns.dflt)), .ovec 3 tI to, .cells 46 (Ty.enc tIns (oneX ins i)), (bEf0 ins i)]))
       (.ret (.tup []) [.cells 136 (fldC t f1 f2 f3 k ex tu ba n), .ovec 46 tIns (reckI ins i (ins.getD (Int.toNat i) tIns.dflt)), .ovec 3 tI to, .cells 46 (Ty.enc tIns (oneX ins i)), (bEf0 ins i)]))
      (.ret (.tup []) [.cells 136 (fldC t f1 f2 f3 k ex tu ba n), .ovec 46 tIns (reckI ins i (ins.getD (Int.toNat i) tIns.dflt)), .ovec 3 tI to, .cells 46 (Ty.enc tIns (oneX ins i)), (bEf0 ins i)]))
     (.ret (.tup []) [.cells 136 (fldC t f1 f2 f3 k ex tu ba n), .ovec 46 tIns (reckI ins i (ins.getD (Int.toNat i) tIns.dflt)), .ovec 3 tI to, .cells 46 (Ty.enc tIns (oneX ins i)), (bEf0 ins i)]))
    (.ret (.tup []) [.cells 136 (fldC t f1 f2 f3 k ex tu ba n), .ovec 46 tIns (reckI ins i (ins.getD (Int.toNat i) tIns.dflt)), .ovec 3 tI to, .cells 46 (Ty.enc tIns (oneX ins i)), (bEf0 ins i)]))
   (.ite (decide ((ins.getD (Int.toNat i) tIns.dflt).1 = 4))
    (.ite (decide ((ins.getD (Int.toNat i) tIns.dflt).1 = 4))
     (.callH 104 [.c (.ptr 0 0 0 0), .c (.int .i64 (ins.getD (Int.toNat i) tIns.dflt).2.1)] [.cells 136 (fldC t f1 f2 f3 k ex tu ba n), .ovec 46 tIns ins, .ovec 3 tI to, .cells 46 (Ty.enc tIns (oneX ins i))] (.tup [.agg (bEf3 ins i), .c (.bool (constB ins (ins.getD (Int.toNat i) tIns.dflt).2.1))]) [.cells 136 (fldC t f1 f2 f3 k ex tu ba n), .ovec 46 tIns ins, .ovec 3 tI to, .cells 46 (Ty.enc tIns (oneX ins i))] [0, 1, 2] <|
      .ite (constB ins (ins.getD (Int.toNat i) tIns.dflt).2.1)
      (.call 105 [.agg (Ty.enc tIns (oneX ins i)), .agg (bEf3 ins i)] false (.c (.bool (holdsV (ins.getD (Int.toNat i) tIns.dflt) (constK ins (ins.getD (Int.toNat i) tIns.dflt).2.1)))) <|
       .ite (holdsV (ins.getD (Int.toNat i) tIns.dflt) (constK ins (ins.getD (Int.toNat i) tIns.dflt).2.1))
       (.need ((0 : Int) ≤ i ∧ (i : Int) < ((n : Nat) : Int)) <|
        .need ((Int.toNat i) < to.length) <|
        .ret (.tup []) [.cells 136 (fldC t f1 f2 f3 k ex tu ba n), .ovec 46 tIns ins, .ovec 3 tI (to.set (Int.toNat i) (-1)), .cells 46 (Ty.enc tIns (oneX ins i)), (bEf2 ins i)])
       (.ret (.tup []) [.cells 136 (fldC t f1 f2 f3 k ex tu ba n), .ovec 46 tIns ins, .ovec 3 tI to, .cells 46 (Ty.enc tIns (oneX ins i)), (bEf2 ins i)]))
      (.ret (.tup []) [.cells 136 (fldC t f1 f2 f3 k ex tu ba n), .ovec 46 tIns ins, .ovec 3 tI to, .cells 46 (Ty.enc tIns (oneX ins i)), (bEf2 ins i)]))
     (.ret (.tup []) [.cells 136 (fldC t f1 f2 f3 k ex tu ba n), .ovec 46 tIns ins, .ovec 3 tI to, .cells 46 (Ty.enc tIns (oneX ins i))]))
    (.ite (decide ((ins.getD (Int.toNat i) tIns.dflt).1 = 5))
     (.ite (decide ((ins.getD (Int.toNat i) tIns.dflt).1 = 5))
      (.callH 104 [.c (.ptr 0 0 0 0), .c (.int .i64 (ins.getD (Int.toNat i) tIns.dflt).2.1)] [.cells 136 (fldC t f1 f2 f3 k ex tu ba n), .ovec 46 tIns ins, .ovec 3 tI to, .cells 46 (Ty.enc tIns (oneX ins i))] (.tup [.agg (bEf3 ins i), .c (.bool (constB ins (ins.getD (Int.toNat i) tIns.dflt).2.1))]) [.cells 136 (fldC t f1 f2 f3 k ex tu ba n), .ovec 46 tIns ins, .ovec 3 tI to, .cells 46 (Ty.enc tIns (oneX ins i))] [0, 1, 2] <|
       .ite (constB ins (ins.getD (Int.toNat i) tIns.dflt).2.1)
       (.call 105 [.agg (Ty.enc tIns (oneX ins i)), .agg (bEf3 ins i)] false (.c (.bool (holdsV (ins.getD (Int.toNat i) tIns.dflt) (constK ins (ins.getD (Int.toNat i) tIns.dflt).2.1)))) <|
        .ite (holdsV (ins.getD (Int.toNat i) tIns.dflt) (constK ins (ins.getD (Int.toNat i) tIns.dflt).2.1))
        (.need ((0 : Int) ≤ i ∧ (i : Int) < ((n : Nat) : Int)) <|
         .need ((Int.toNat i) < to.length) <|
         .ret (.tup []) [.cells 136 (fldC t f1 f2 f3 k ex tu ba n), .ovec 46 tIns ins, .ovec 3 tI (to.set (Int.toNat i) (-1)), .cells 46 (Ty.enc tIns (oneX ins i)), (bEf2 ins i)])
        (.ret (.tup []) [.cells 136 (fldC t f1 f2 f3 k ex tu ba n), .ovec 46 tIns ins, .ovec 3 tI to, .cells 46 (Ty.enc tIns (oneX ins i)), (bEf2 ins i)]))
       (.ret (.tup []) [.cells 136 (fldC t f1 f2 f3 k ex tu ba n), .ovec 46 tIns ins, .ovec 3 tI to, .cells 46 (Ty.enc tIns (oneX ins i)), (bEf2 ins i)]))
      (.ret (.tup []) [.cells 136 (fldC t f1 f2 f3 k ex tu ba n), .ovec 46 tIns ins, .ovec 3 tI to, .cells 46 (Ty.enc tIns (oneX ins i))]))
     (.ite (decide ((ins.getD (Int.toNat i) tIns.dflt).1 = 6))
      (.callH 104 [.c (.ptr 0 0 0 0), .c (.int .i64 (ins.getD (Int.toNat i) tIns.dflt).2.1)] [.cells 136 (fldC t f1 f2 f3 k ex tu ba n), .ovec 46 tIns ins, .ovec 3 tI to, .cells 46 (Ty.enc tIns (oneX ins i))] (.tup [.agg (bEf3 ins i), .c (.bool (constB ins (ins.getD (Int.toNat i) tIns.dflt).2.1))]) [.cells 136 (fldC t f1 f2 f3 k ex tu ba n), .ovec 46 tIns ins, .ovec 3 tI to, .cells 46 (Ty.enc tIns (oneX ins i))] [0, 1, 2] <|
       .ite (constB ins (ins.getD (Int.toNat i) tIns.dflt).2.1)
       (.call 105 [.agg (Ty.enc tIns (oneX ins i)), .agg (bEf3 ins i)] false (.c (.bool (holdsV (ins.getD (Int.toNat i) tIns.dflt) (constK ins (ins.getD (Int.toNat i) tIns.dflt).2.1)))) <|
        .ite (holdsV (ins.getD (Int.toNat i) tIns.dflt) (constK ins (ins.getD (Int.toNat i) tIns.dflt).2.1))
        (.need ((0 : Int) ≤ i ∧ (i : Int) < ((n : Nat) : Int)) <|
         .need ((Int.toNat i) < to.length) <|
         .ret (.tup []) [.cells 136 (fldC t f1 f2 f3 k ex tu ba n), .ovec 46 tIns ins, .ovec 3 tI (to.set (Int.toNat i) (-1)), .cells 46 (Ty.enc tIns (oneX ins i)), (bEf2 ins i)])
        (.ret (.tup []) [.cells 136 (fldC t f1 f2 f3 k ex tu ba n), .ovec 46 tIns ins, .ovec 3 tI to, .cells 46 (Ty.enc tIns (oneX ins i)), (bEf2 ins i)]))
       (.ret (.tup []) [.cells 136 (fldC t f1 f2 f3 k ex tu ba n), .ovec 46 tIns ins, .ovec 3 tI to, .cells 46 (Ty.enc tIns (oneX ins i)), (bEf2 ins i)]))
      (.ret (.tup []) [.cells 136 (fldC t f1 f2 f3 k ex tu ba n), .ovec 46 tIns ins, .ovec 3 tI to, .cells 46 (Ty.enc tIns (oneX ins i))])))))
theorem onef_T_ok (t : ETrace) (f1 : Int) (f2 : Int) (f3 : Int) (k : Nat) (ex : List EExit) (tu : EExit) (ba : EExit) (n : Nat) (ins : List EIns) (to : List Int) (i : Int) : aRun Tryd.prog oc_onef Tryd.f67 onef_lv 3000 [.code (bodyOf Tryd.f67)] ([.c (.ptr 0 0 0 0), .c (.int .i64 i)] ++ List.replicate (Func.ntmps Tryd.f67 - 2) .junk) [.cells 136 (fldC t f1 f2 f3 k ex tu ba n), .ovec 46 tIns ins, .ovec 3 tI to] = onef_T t f1 f2 f3 k ex tu ba n ins to i := by kernel_rfl
theorem onef_fun (t : ETrace) (f1 : Int) (f2 : Int) (f3 : Int) (k : Nat) (ex : List EExit) (tu : EExit) (ba : EExit) (n : Nat) (ins : List EIns) (to : List Int) (i : Int) (hi : 0 ≤ i ∧ i < (k : Int)) (ha : 4 ≤ (oneX ins i).1 → (oneX ins i).1 ≤ 8 → 0 ≤ (oneX ins i).2.1 ∧ (oneX ins i).2.1 < (k : Int)) (hb : (oneX ins i).1 = 7 → 0 ≤ (oneX ins i).2.2.1 ∧ (oneX ins i).2.2.1 < (k : Int)) (hk : ins.length = k) (hn : to.length = n) (hin : i < (n : Int)) : AFunH Tryd.prog 67 [.c (.ptr 0 0 0 0), .c (.int .i64 i)] [.cells 136 (fldC t f1 f2 f3 k ex tu ba n), .ovec 46 tIns ins, .ovec 3 tI to] (.tup []) [.cells 136 (fldC t f1 f2 f3 k ex tu ba n), .ovec 46 tIns (oneI t ins i), .ovec 3 tI (oneT t ins to i)] (List.range 3) :=
  AFunH.ofL oc_onef onef_lv 3000 Tryd.func67 mixed rfl (by decide) (Nat.le_of_ble_eq_true rfl) rfl rfl (Nat.le_of_ble_eq_true rfl) _ (onef_T_ok t f1 f2 f3 k ex tu ba n ins to i) fun hF => by
    unfold onef_T
    refine g_need (by (try unfold oneX at ha hb); first | omega | (constructor <;> omega) | (simp only [List.length_set, reckI_len, twiceI_len, twoI_len, twoT_len]; omega) | rfl | (simp; done)) ?_
    refine g_need (by (try unfold oneX at ha hb); first | omega | (constructor <;> omega) | (simp only [List.length_set, reckI_len, twiceI_len, twoI_len, twoT_len]; omega) | rfl | (simp; done)) ?_
    refine g_iteD (fun h0 => ?_) (fun h0 => ?_)
    · refine g_callH (AFunH.frameB [0, 1, 2] (two_fun t f1 f2 f3 k ex tu ba n ins to i (ins.getD (Int.toNat i) tIns.dflt) (by omega) (by unfold oneX at ha; omega) (by unfold oneX at hb; omega) hk hn hin) rfl rfl rfl rfl rfl rfl rfl) ?_
      refine g_fin ?_
      exact g_end [0, 1, 2] (show ∀ k, k < 3 → ([0, 1, 2] : List Nat)[k]? = some k by decide) (by decide) (leAV.refl _) ⟨leB.refl _, ⟨rfl, ⟨rfl, (show (twoI t ins i (ins.getD (Int.toNat i) tIns.dflt)) = oneI t ins i from by simp_all [oneI, oneT, oneX, notnot, gone])⟩⟩, ⟨rfl, ⟨rfl, (show (twoT t ins to i (ins.getD (Int.toNat i) tIns.dflt)) = oneT t ins to i from by simp_all [oneI, oneT, oneX, notnot, gone])⟩⟩, trivial⟩
    · refine g_iteD (fun h1 => ?_) (fun h1 => ?_)
      · refine g_need (by (try unfold oneX at ha hb); first | omega | (constructor <;> omega) | (simp only [List.length_set, reckI_len, twiceI_len, twoI_len, twoT_len]; omega) | rfl | (simp; done)) ?_
        refine g_need (by (try unfold oneX at ha hb); first | omega | (constructor <;> omega) | (simp only [List.length_set, reckI_len, twiceI_len, twoI_len, twoT_len]; omega) | rfl | (simp; done)) ?_
        refine g_callH (AFunH.frameB [0, 1, 2] (reck_fun t f1 f2 f3 k ex tu ba n ins to i (ins.getD (Int.toNat i) tIns.dflt) (by omega) (by unfold oneX at ha; omega) (by unfold oneX at hb; omega) hk) rfl rfl rfl rfl rfl rfl rfl) ?_
        refine g_iteN (fun h2 => ?_) (fun h2 => ?_)
        · refine g_iteD (fun h3 => ?_) (fun h3 => ?_)
          · refine g_iteD (fun h4 => ?_) (fun h4 => ?_)
            · refine g_iteD (fun h5 => ?_) (fun h5 => ?_)
              · refine g_call (kind_fun t (ins.getD (Int.toNat (ins.getD (Int.toNat i) tIns.dflt).2.1) tIns.dflt).2.1 i) (fun h => nomatch h) ?_
                refine g_iteD (fun h6 => ?_) (fun h6 => ?_)
                · refine g_need (by (try unfold oneX at ha hb); first | omega | (constructor <;> omega) | (simp only [List.length_set, reckI_len, twiceI_len, twoI_len, twoT_len]; omega) | rfl | (simp; done)) ?_
                  refine g_need (by (try unfold oneX at ha hb); first | omega | (constructor <;> omega) | (simp only [List.length_set, reckI_len, twiceI_len, twoI_len, twoT_len]; omega) | rfl | (simp; done)) ?_
                  refine g_fin ?_
                  exact g_end [0, 1, 2] (show ∀ k, k < 3 → ([0, 1, 2] : List Nat)[k]? = some k by decide) (by decide) (leAV.refl _) ⟨leB.refl _, ⟨rfl, ⟨rfl, (show (reckI ins i (ins.getD (Int.toNat i) tIns.dflt)) = oneI t ins i from by simp_all [oneI, oneT, oneX, notnot, gone])⟩⟩, ⟨rfl, ⟨rfl, (show ((to.set (Int.toNat i) (ins.getD (Int.toNat (ins.getD (Int.toNat i) tIns.dflt).2.1) tIns.dflt).2.1)) = oneT t ins to i from by simp_all [oneI, oneT, oneX, notnot, gone])⟩⟩, trivial⟩
                · refine g_fin ?_
                  exact g_end [0, 1, 2] (show ∀ k, k < 3 → ([0, 1, 2] : List Nat)[k]? = some k by decide) (by decide) (leAV.refl _) ⟨leB.refl _, ⟨rfl, ⟨rfl, (show (reckI ins i (ins.getD (Int.toNat i) tIns.dflt)) = oneI t ins i from by simp_all [oneI, oneT, oneX, notnot, gone])⟩⟩, ⟨rfl, ⟨rfl, (show (to) = oneT t ins to i from by simp_all [oneI, oneT, oneX, notnot, gone])⟩⟩, trivial⟩
              · refine g_fin ?_
                exact g_end [0, 1, 2] (show ∀ k, k < 3 → ([0, 1, 2] : List Nat)[k]? = some k by decide) (by decide) (leAV.refl _) ⟨leB.refl _, ⟨rfl, ⟨rfl, (show (reckI ins i (ins.getD (Int.toNat i) tIns.dflt)) = oneI t ins i from by simp_all [oneI, oneT, oneX, notnot, gone])⟩⟩, ⟨rfl, ⟨rfl, (show (to) = oneT t ins to i from by simp_all [oneI, oneT, oneX, notnot, gone])⟩⟩, trivial⟩
            · refine g_fin ?_
              exact g_end [0, 1, 2] (show ∀ k, k < 3 → ([0, 1, 2] : List Nat)[k]? = some k by decide) (by decide) (leAV.refl _) ⟨leB.refl _, ⟨rfl, ⟨rfl, (show (reckI ins i (ins.getD (Int.toNat i) tIns.dflt)) = oneI t ins i from by simp_all [oneI, oneT, oneX, notnot, gone])⟩⟩, ⟨rfl, ⟨rfl, (show (to) = oneT t ins to i from by simp_all [oneI, oneT, oneX, notnot, gone])⟩⟩, trivial⟩
          · refine g_fin ?_
            exact g_end [0, 1, 2] (show ∀ k, k < 3 → ([0, 1, 2] : List Nat)[k]? = some k by decide) (by decide) (leAV.refl _) ⟨leB.refl _, ⟨rfl, ⟨rfl, (show (reckI ins i (ins.getD (Int.toNat i) tIns.dflt)) = oneI t ins i from by simp_all [oneI, oneT, oneX, notnot, gone])⟩⟩, ⟨rfl, ⟨rfl, (show (to) = oneT t ins to i from by simp_all [oneI, oneT, oneX, notnot, gone])⟩⟩, trivial⟩
        · refine g_fin ?_
          exact g_end [0, 1, 2] (show ∀ k, k < 3 → ([0, 1, 2] : List Nat)[k]? = some k by decide) (by decide) (leAV.refl _) ⟨leB.refl _, ⟨rfl, ⟨rfl, (show (reckI ins i (ins.getD (Int.toNat i) tIns.dflt)) = oneI t ins i from by simp_all [oneI, oneT, oneX, notnot, gone])⟩⟩, ⟨rfl, ⟨rfl, (show (to) = oneT t ins to i from by simp_all [oneI, oneT, oneX, notnot, gone])⟩⟩, trivial⟩
      · refine g_iteD (fun h2 => ?_) (fun h2 => ?_)
        · refine g_iteD (fun h3 => ?_) (fun h3 => ?_)
          · refine g_callH (AFunH.frameB [0, 1, 2] (const_fun t f1 f2 f3 k ex tu ba n ins to (ins.getD (Int.toNat i) tIns.dflt).2.1 (by unfold oneX at ha; omega) hk) rfl rfl rfl rfl rfl rfl rfl) ?_
            refine g_ite (fun h4 => ?_) (fun h4 => ?_)
            · refine g_call (holdsV_fun (ins.getD (Int.toNat i) tIns.dflt) (constK ins (ins.getD (Int.toNat i) tIns.dflt).2.1)) (fun h => nomatch h) ?_
              refine g_ite (fun h5 => ?_) (fun h5 => ?_)
              · refine g_need (by (try unfold oneX at ha hb); first | omega | (constructor <;> omega) | (simp only [List.length_set, reckI_len, twiceI_len, twoI_len, twoT_len]; omega) | rfl | (simp; done)) ?_
                refine g_need (by (try unfold oneX at ha hb); first | omega | (constructor <;> omega) | (simp only [List.length_set, reckI_len, twiceI_len, twoI_len, twoT_len]; omega) | rfl | (simp; done)) ?_
                refine g_fin ?_
                exact g_end [0, 1, 2] (show ∀ k, k < 3 → ([0, 1, 2] : List Nat)[k]? = some k by decide) (by decide) (leAV.refl _) ⟨leB.refl _, ⟨rfl, ⟨rfl, (show (ins) = oneI t ins i from by simp_all [oneI, oneT, oneX, notnot, gone])⟩⟩, ⟨rfl, ⟨rfl, (show ((to.set (Int.toNat i) (-1))) = oneT t ins to i from by simp_all [oneI, oneT, oneX, notnot, gone])⟩⟩, trivial⟩
              · refine g_fin ?_
                exact g_end [0, 1, 2] (show ∀ k, k < 3 → ([0, 1, 2] : List Nat)[k]? = some k by decide) (by decide) (leAV.refl _) ⟨leB.refl _, ⟨rfl, ⟨rfl, (show (ins) = oneI t ins i from by simp_all [oneI, oneT, oneX, notnot, gone])⟩⟩, ⟨rfl, ⟨rfl, (show (to) = oneT t ins to i from by simp_all [oneI, oneT, oneX, notnot, gone])⟩⟩, trivial⟩
            · refine g_fin ?_
              exact g_end [0, 1, 2] (show ∀ k, k < 3 → ([0, 1, 2] : List Nat)[k]? = some k by decide) (by decide) (leAV.refl _) ⟨leB.refl _, ⟨rfl, ⟨rfl, (show (ins) = oneI t ins i from by simp_all [oneI, oneT, oneX, notnot, gone])⟩⟩, ⟨rfl, ⟨rfl, (show (to) = oneT t ins to i from by simp_all [oneI, oneT, oneX, notnot, gone])⟩⟩, trivial⟩
          · refine g_fin ?_
            exact g_end [0, 1, 2] (show ∀ k, k < 3 → ([0, 1, 2] : List Nat)[k]? = some k by decide) (by decide) (leAV.refl _) ⟨leB.refl _, ⟨rfl, ⟨rfl, (show (ins) = oneI t ins i from by simp_all [oneI, oneT, oneX, notnot, gone])⟩⟩, ⟨rfl, ⟨rfl, (show (to) = oneT t ins to i from by simp_all [oneI, oneT, oneX, notnot, gone])⟩⟩, trivial⟩
        · refine g_iteD (fun h3 => ?_) (fun h3 => ?_)
          · refine g_iteD (fun h4 => ?_) (fun h4 => ?_)
            · refine g_callH (AFunH.frameB [0, 1, 2] (const_fun t f1 f2 f3 k ex tu ba n ins to (ins.getD (Int.toNat i) tIns.dflt).2.1 (by unfold oneX at ha; omega) hk) rfl rfl rfl rfl rfl rfl rfl) ?_
              refine g_ite (fun h5 => ?_) (fun h5 => ?_)
              · refine g_call (holdsV_fun (ins.getD (Int.toNat i) tIns.dflt) (constK ins (ins.getD (Int.toNat i) tIns.dflt).2.1)) (fun h => nomatch h) ?_
                refine g_ite (fun h6 => ?_) (fun h6 => ?_)
                · refine g_need (by (try unfold oneX at ha hb); first | omega | (constructor <;> omega) | (simp only [List.length_set, reckI_len, twiceI_len, twoI_len, twoT_len]; omega) | rfl | (simp; done)) ?_
                  refine g_need (by (try unfold oneX at ha hb); first | omega | (constructor <;> omega) | (simp only [List.length_set, reckI_len, twiceI_len, twoI_len, twoT_len]; omega) | rfl | (simp; done)) ?_
                  refine g_fin ?_
                  exact g_end [0, 1, 2] (show ∀ k, k < 3 → ([0, 1, 2] : List Nat)[k]? = some k by decide) (by decide) (leAV.refl _) ⟨leB.refl _, ⟨rfl, ⟨rfl, (show (ins) = oneI t ins i from by simp_all [oneI, oneT, oneX, notnot, gone])⟩⟩, ⟨rfl, ⟨rfl, (show ((to.set (Int.toNat i) (-1))) = oneT t ins to i from by simp_all [oneI, oneT, oneX, notnot, gone])⟩⟩, trivial⟩
                · refine g_fin ?_
                  exact g_end [0, 1, 2] (show ∀ k, k < 3 → ([0, 1, 2] : List Nat)[k]? = some k by decide) (by decide) (leAV.refl _) ⟨leB.refl _, ⟨rfl, ⟨rfl, (show (ins) = oneI t ins i from by simp_all [oneI, oneT, oneX, notnot, gone])⟩⟩, ⟨rfl, ⟨rfl, (show (to) = oneT t ins to i from by simp_all [oneI, oneT, oneX, notnot, gone])⟩⟩, trivial⟩
              · refine g_fin ?_
                exact g_end [0, 1, 2] (show ∀ k, k < 3 → ([0, 1, 2] : List Nat)[k]? = some k by decide) (by decide) (leAV.refl _) ⟨leB.refl _, ⟨rfl, ⟨rfl, (show (ins) = oneI t ins i from by simp_all [oneI, oneT, oneX, notnot, gone])⟩⟩, ⟨rfl, ⟨rfl, (show (to) = oneT t ins to i from by simp_all [oneI, oneT, oneX, notnot, gone])⟩⟩, trivial⟩
            · refine g_fin ?_
              exact g_end [0, 1, 2] (show ∀ k, k < 3 → ([0, 1, 2] : List Nat)[k]? = some k by decide) (by decide) (leAV.refl _) ⟨leB.refl _, ⟨rfl, ⟨rfl, (show (ins) = oneI t ins i from by simp_all [oneI, oneT, oneX, notnot, gone])⟩⟩, ⟨rfl, ⟨rfl, (show (to) = oneT t ins to i from by simp_all [oneI, oneT, oneX, notnot, gone])⟩⟩, trivial⟩
          · refine g_iteD (fun h4 => ?_) (fun h4 => ?_)
            · refine g_callH (AFunH.frameB [0, 1, 2] (const_fun t f1 f2 f3 k ex tu ba n ins to (ins.getD (Int.toNat i) tIns.dflt).2.1 (by unfold oneX at ha; omega) hk) rfl rfl rfl rfl rfl rfl rfl) ?_
              refine g_ite (fun h5 => ?_) (fun h5 => ?_)
              · refine g_call (holdsV_fun (ins.getD (Int.toNat i) tIns.dflt) (constK ins (ins.getD (Int.toNat i) tIns.dflt).2.1)) (fun h => nomatch h) ?_
                refine g_ite (fun h6 => ?_) (fun h6 => ?_)
                · refine g_need (by (try unfold oneX at ha hb); first | omega | (constructor <;> omega) | (simp only [List.length_set, reckI_len, twiceI_len, twoI_len, twoT_len]; omega) | rfl | (simp; done)) ?_
                  refine g_need (by (try unfold oneX at ha hb); first | omega | (constructor <;> omega) | (simp only [List.length_set, reckI_len, twiceI_len, twoI_len, twoT_len]; omega) | rfl | (simp; done)) ?_
                  refine g_fin ?_
                  exact g_end [0, 1, 2] (show ∀ k, k < 3 → ([0, 1, 2] : List Nat)[k]? = some k by decide) (by decide) (leAV.refl _) ⟨leB.refl _, ⟨rfl, ⟨rfl, (show (ins) = oneI t ins i from by simp_all [oneI, oneT, oneX, notnot, gone])⟩⟩, ⟨rfl, ⟨rfl, (show ((to.set (Int.toNat i) (-1))) = oneT t ins to i from by simp_all [oneI, oneT, oneX, notnot, gone])⟩⟩, trivial⟩
                · refine g_fin ?_
                  exact g_end [0, 1, 2] (show ∀ k, k < 3 → ([0, 1, 2] : List Nat)[k]? = some k by decide) (by decide) (leAV.refl _) ⟨leB.refl _, ⟨rfl, ⟨rfl, (show (ins) = oneI t ins i from by simp_all [oneI, oneT, oneX, notnot, gone])⟩⟩, ⟨rfl, ⟨rfl, (show (to) = oneT t ins to i from by simp_all [oneI, oneT, oneX, notnot, gone])⟩⟩, trivial⟩
              · refine g_fin ?_
                exact g_end [0, 1, 2] (show ∀ k, k < 3 → ([0, 1, 2] : List Nat)[k]? = some k by decide) (by decide) (leAV.refl _) ⟨leB.refl _, ⟨rfl, ⟨rfl, (show (ins) = oneI t ins i from by simp_all [oneI, oneT, oneX, notnot, gone])⟩⟩, ⟨rfl, ⟨rfl, (show (to) = oneT t ins to i from by simp_all [oneI, oneT, oneX, notnot, gone])⟩⟩, trivial⟩
            · refine g_fin ?_
              exact g_end [0, 1, 2] (show ∀ k, k < 3 → ([0, 1, 2] : List Nat)[k]? = some k by decide) (by decide) (leAV.refl _) ⟨leB.refl _, ⟨rfl, ⟨rfl, (show (ins) = oneI t ins i from by simp_all [oneI, oneT, oneX, notnot, gone])⟩⟩, ⟨rfl, ⟨rfl, (show (to) = oneT t ins to i from by simp_all [oneI, oneT, oneX, notnot, gone])⟩⟩, trivial⟩

end Go.Proofs.YtefkifdhjabdiaaDoor
namespace Go.Proofs.YtefkifdhjabdiaaDoor
set_option linter.unusedVariables false
set_option linter.unusedSimpArgs false
set_option maxRecDepth 100000
def eqIF (a b : List Int) : Bool := decide (a = b)
theorem drop_eqI {a b : List Int} {i : Nat} (hl : a.length = b.length) (hi : i < a.length) : (a.drop i = b.drop i) ↔ (a.getD i (Ty.dflt tI) = b.getD i (Ty.dflt tI) ∧ a.drop (i + 1) = b.drop (i + 1)) := by
  rw [dropCons (l := a) (Ty.dflt tI) hi, dropCons (l := b) (Ty.dflt tI) (by omega), List.cons.injEq]
def eqI_lv : LV := ⟨(false :: true :: F8 (F2 (true :: true :: true :: F8 (F2 (false :: []))))), []⟩
noncomputable def eqI_T (a : List Int) (b : List Int) : Tree :=
  .ite ((!(decide ((a.length : Int) = (b.length : Int)))))
  (.ret (.c (.lit false)) [])
  (.stop (lp (bodyOf Tryd.f41) 0) (.junk :: .c (.ro tI b) :: J8 (J2 (.c (.ro tI a) :: .c (.int .i64 (a.length : Int)) :: .c (.int .i64 0) :: J8 (J2 (.junk :: []))))) [])
theorem eqI_T_ok (a : List Int) (b : List Int) : aRun Tryd.prog oc0 Tryd.f41 eqI_lv 3000 [.code (bodyOf Tryd.f41)] ([.c (.ro tI a), .c (.ro tI b)] ++ List.replicate (Func.ntmps Tryd.f41 - 2) .junk) [] = eqI_T a b := by kernel_rfl
noncomputable def eqI_l0_R (a : List Int) (b : List Int) (i : Nat) : Tree :=
  .ite (decide (((i : Nat) : Int) < (a.length : Int)))
  (.need ((0 : Int) ≤ ((i : Nat) : Int) ∧ (((i : Nat) : Int) : Int) < (a.length : Int)) <|
   .need (i < a.length) <|
   .need ((0 : Int) ≤ ((i : Nat) : Int) ∧ (((i : Nat) : Int) : Int) < (b.length : Int)) <|
   .need (i < b.length) <|
   .ite ((!(decide ((a.getD i tI.dflt) = (b.getD i tI.dflt)))))
   (.ret (.c (.lit false)) [])
   (.need (inR .i64 (((i : Nat) : Int) + 1)) <|
    .stop (lp (bodyOf Tryd.f41) 0) (.junk :: .c (.ro tI b) :: J8 (J2 (.c (.ro tI a) :: .c (.int .i64 (a.length : Int)) :: .c (.int .i64 (((i : Nat) : Int) + 1)) :: J8 (J2 (.junk :: []))))) []))
  (.ret (.c (.lit true)) [])
theorem eqI_l0_R_ok (a : List Int) (b : List Int) (i : Nat) : aRound Tryd.prog oc0 Tryd.f41 eqI_lv 3000 (lp (bodyOf Tryd.f41) 0) (.junk :: .c (.ro tI b) :: J8 (J2 (.c (.ro tI a) :: .c (.int .i64 (a.length : Int)) :: .c (.int .i64 ((i : Nat) : Int)) :: J8 (J2 (.junk :: []))))) [] = eqI_l0_R a b i := by kernel_rfl
theorem eqI_l0 (a : List Int) (b : List Int) (i : Nat) (hl : a.length = b.length) (hb : a.length ≤ 9223372036854775807) : Run Tryd.prog 41 (retQ Tryd.prog (.c (.bool (decide (a.drop i = b.drop i))))) (lp (bodyOf Tryd.f41) 0) (.junk :: .c (.ro tI b) :: J8 (J2 (.c (.ro tI a) :: .c (.int .i64 (a.length : Int)) :: .c (.int .i64 ((i : Nat) : Int)) :: J8 (J2 (.junk :: []))))) [] :=
  Run.roundA oc0 eqI_lv 3000 Tryd.func41 mixed (eqI_l0_R a b i) (eqI_l0_R_ok a b i) (by
    unfold eqI_l0_R
    refine g_iteD (fun h0 => ?_) (fun h0 => ?_)
    · refine g_need (by omega) ?_
      refine g_need (by omega) ?_
      refine g_need (by omega) ?_
      refine g_need (by omega) ?_
      refine g_iteND (fun h1 => ?_) (fun h1 => ?_)
      · exact g_retl (by symm; rw [decide_eq_false_iff_not, drop_eqI hl (by omega)]; exact fun q => h1 q.1)
      · refine g_need (i64_iff.2 (by omega)) ?_
        refine g_stop (RunN.keep [] (false :: true :: F8 (F2 (true :: true :: true :: F8 (F2 (false :: []))))) n0 (by decide) rfl rfl ?_)
        have := eqI_l0 a b (i + 1) hl hb; have e : decide (a.drop i = b.drop i) = decide (a.drop (i + 1) = b.drop (i + 1)) := (by rw [decide_eq_decide, drop_eqI hl (by omega)]; exact ⟨fun q => q.2, fun q => ⟨h1, q⟩⟩); rw [e]; exact this
    · exact g_retl (by rw [List.drop_eq_nil_of_le (by omega), List.drop_eq_nil_of_le (by omega)]; rfl)
    )
  termination_by a.length - i
  decreasing_by all_goals omega
theorem eqI_fun (a : List Int) (b : List Int) : AFun Tryd.prog 41 [.c (.ro tI a), .c (.ro tI b)] (.c (.bool (eqIF a b))) :=
  AFun.of oc0 eqI_lv 3000 Tryd.func41 mixed rfl (by decide) (Nat.le_of_ble_eq_true rfl) _ (eqI_T_ok a b) fun hF => by
    unfold eqI_T
    refine g_iteND (fun h0 => ?_) (fun h0 => ?_)
    · exact g_retl (by symm; unfold eqIF; rw [decide_eq_false_iff_not]; intro q; exact h0 (by rw [q]))
    · refine g_stop (RunN.keep [] (false :: true :: F8 (F2 (true :: true :: true :: F8 (F2 (false :: []))))) n0 (by decide) rfl rfl ?_)
      have := eqI_l0 a b 0 (by omega) hF.ro.1.1; exact this

noncomputable def oc9 : Orc where
  pure := fun f args => match f, args with
    | 18, [a0] => match dA tIns a0 with
      | some x0 => some (.c (.ro tI (askF x0)))
      | _ => none
    | 19, [a0] => match dA tI a0 with
      | some x0 => some (.c (.bool (tellF x0)))
      | _ => none
    | 41, [a0, a1] => match dA (.slice tI) a0, dA (.slice tI) a1 with
      | some x0, some x1 => some (.c (.bool (eqIF x0 x1)))
      | _, _ => none
    | _, _ => none
  heap := fun _ _ _ => none
def irred_lv : LV := ⟨([]), []⟩
noncomputable def irred_T  : Tree :=
  .call 18 [.agg [.int .i64 14, .int .i64 4, .int .i64 5, .int .i64 6, .int .i64 0, .int .i64 0, .int .i64 0, .int .i64 0]] false (.c (.ro tI (askF (14, (4, (5, (6, (0, (0, (0, 0)))))))))) <|
  .need (0 = 0 ∧ 3 = ([4, 5, 6]).length) <|
  .call 41 [.c (.ro tI (askF (14, (4, (5, (6, (0, (0, (0, 0))))))))), .c (.ro tI ([4, 5, 6]))] true (.c (.bool (eqIF (askF (14, (4, (5, (6, (0, (0, (0, 0)))))))) ([4, 5, 6])))) <|
  .ite (eqIF (askF (14, (4, (5, (6, (0, (0, (0, 0)))))))) ([4, 5, 6]))
  (.call 19 [.c (.int .i64 13)] false (.c (.bool (tellF 13))) <|
   .ite (tellF 13)
   (.call 19 [.c (.int .i64 11)] false (.c (.bool (tellF 11))) <|
    .ret (.c (.bool (!(tellF 11)))) [.vec 3 tI ([4, 5, 6])])
   (.ret (.c (.lit false)) [.vec 3 tI ([4, 5, 6])]))
  (.ret (.c (.lit false)) [.vec 3 tI ([4, 5, 6])])
theorem irred_T_ok  : aRun Tryd.prog oc9 Tryd.f15 irred_lv 3000 [.code (bodyOf Tryd.f15)] ([] ++ List.replicate (Func.ntmps Tryd.f15 - 0) .junk) [] = irred_T  := by kernel_rfl
theorem irred_fun  : AFun Tryd.prog 15 [] (.c (.bool (true))) :=
  AFun.of oc9 irred_lv 3000 Tryd.func15 mixed rfl (by decide) (Nat.le_of_ble_eq_true rfl) _ (irred_T_ok ) fun hF => by
    unfold irred_T
    refine g_call (asks_fun (14, (4, (5, (6, (0, (0, (0, 0)))))))) (fun h => nomatch h) ?_
    refine g_need (by decide) ?_
    refine g_call (eqI_fun (askF (14, (4, (5, (6, (0, (0, (0, 0)))))))) ([4, 5, 6])) (fun _ => rfl) ?_
    refine g_ite (fun h0 => ?_) (fun h0 => ?_)
    · refine g_call (tells_fun 13) (fun h => nomatch h) ?_
      refine g_ite (fun h1 => ?_) (fun h1 => ?_)
      · refine g_call (tells_fun 11) (fun h => nomatch h) ?_
        exact g_retb (by decide)
      · exact g_retl (by exact absurd h1 (by decide))
    · exact g_retl (by exact absurd h0 (by decide))

theorem insF_at {c : EChk} : ∀ {l : List EIns} {k : Nat}, insF c k l = 0 → ∀ (i : Nat) (x : EIns), l[i]? = some x → (ofF x.1).2 = true ∧ formedF c (ofF x.1).1 x (k + i : Nat) = true
  | [], k, _, i, x, hx => by simp at hx
  | y :: r, k, h, i, x, hx => by
    unfold insF at h
    split at h
    · exact absurd h (by decide)
    · split at h
      · exact absurd h (by decide)
      · rename_i h1 h2
        cases i with
        | zero =>
          simp at hx
          subst hx
          exact ⟨by simpa using h1, by simpa using h2⟩
        | succ i =>
          simp at hx
          have := insF_at h i x hx
          have e : k + 1 + i = k + (i + 1) := by omega
          rwa [e] at this
theorem check_ins {p : EProg} {t : ETrace} (h : checkF p t = 0) : ∀ (i : Nat) (x : EIns), t.2.2.2.1[i]? = some x → (ofF x.1).2 = true ∧ formedF (p.1.getD (Int.toNat t.1) tFn.dflt, t) (ofF x.1).1 x (i : Nat) = true := by
  unfold checkF at h
  split at h
  · unfold check4F at h
    split at h
    · split at h
      · unfold bodyF thenF at h
        split at h
        · rename_i h0
          intro i x hx
          have := insF_at h0 i x hx
          simpa using this
        · rename_i h0; exact absurd h h0
      · exact absurd h (by decide)
    · exact absurd h (by decide)
  · rename_i h0; exact absurd h h0
theorem check_asks {p : EProg} {t : ETrace} (h : checkF p t = 0) {i : Nat} (hi : i < t.2.2.2.1.length) : ∀ v ∈ askF (t.2.2.2.1.getD i tIns.dflt), 0 ≤ v ∧ v < (i : Int) ∧ v < (t.2.2.2.1.length : Int) ∧ tellF (t.2.2.2.1.getD v.toNat tIns.dflt).1 = true := by
  intro v hv
  have hx : t.2.2.2.1[i]? = some (t.2.2.2.1.getD i tIns.dflt) := by rw [List.getD_eq_getElem?_getD, List.getElem?_eq_getElem hi]; rfl
  obtain ⟨h1, h2⟩ := check_ins h i _ hx
  unfold askF at hv
  rw [if_pos h1] at hv
  unfold formedF at h2
  rw [Bool.and_eq_true] at h2
  have h3 := List.all_eq_true.1 h2.1 v hv
  exact valueF_len h3
end Go.Proofs.YtefkifdhjabdiaaDoor
namespace Go.Proofs.YtefkifdhjabdiaaDoor
set_option linter.unusedVariables false
set_option linter.unusedSimpArgs false
theorem makeF_iff {c : EChk} {m : EMake} {a : Int} : makeF c m a = true ↔ valueF c m.1 a = true ∧ (c.2.2.2.2.1.getD (Int.toNat m.1) tIns.dflt).1 = 18 ∧ 1 ≤ m.2.1 ∧ m.2.1 ≤ 3 ∧ 0 ≤ m.2.2.1 ∧ (0 < m.2.2.1 → m.2.1 = 1) ∧ m.2.2.2.length ≤ 100 ∧ valuesF c m.2.2.2 a = true := by
  unfold makeF
  cases hv : valueF c m.1 a with
  | false => simp
  | true =>
    by_cases h1 : (c.2.2.2.2.1.getD (Int.toNat m.1) tIns.dflt).1 = 18
    · rw [if_neg (by simp), if_neg (by rw [decide_eq_true h1]; decide)]
      by_cases h2 : m.2.1 < 1
      · rw [if_pos h2]; constructor
        · intro h; cases h
        · rintro ⟨_, _, h3, _⟩; omega
      · rw [if_neg h2]
        by_cases h3 : 3 < m.2.1
        · rw [if_pos h3]; constructor
          · intro h; cases h
          · rintro ⟨_, _, _, h4, _⟩; omega
        · rw [if_neg h3]
          by_cases h4 : m.2.2.1 < 0
          · rw [if_pos h4]; constructor
            · intro h; cases h
            · rintro ⟨_, _, _, _, h5, _⟩; omega
          · rw [if_neg h4]
            have key : (if (m.2.2.2.length : Int) ≤ 100 then valuesF c m.2.2.2 a else false) = true ↔ m.2.2.2.length ≤ 100 ∧ valuesF c m.2.2.2 a = true := by
              by_cases h6 : (m.2.2.2.length : Int) ≤ 100
              · rw [if_pos h6]; exact ⟨fun h => ⟨by omega, h⟩, fun h => h.2⟩
              · rw [if_neg h6]; exact ⟨fun h => (by cases h), fun h => absurd h.1 (by omega)⟩
            by_cases h5 : 0 < m.2.2.1
            · rw [if_pos h5]
              by_cases h7 : m.2.1 = 1
              · rw [if_neg (by simp [h7]), key]
                exact ⟨fun h => ⟨rfl, h1, by omega, by omega, by omega, fun _ => h7, h⟩, fun h => h.2.2.2.2.2.2⟩
              · rw [if_pos (by simp [h7])]
                exact ⟨fun h => (by cases h), fun h => absurd (h.2.2.2.2.2.1 h5) h7⟩
            · rw [if_neg h5, key]
              exact ⟨fun h => ⟨rfl, h1, by omega, by omega, by omega, fun h' => absurd h' h5, h⟩, fun h => h.2.2.2.2.2.2⟩
    · rw [if_neg (by simp), if_pos (by rw [decide_eq_false h1]; rfl)]
      exact ⟨fun h => (by cases h), fun h => absurd h.2.1 h1⟩
theorem setsF_len {c : EChk} {a : Int} : ∀ {l : List ESet} {last : Int}, setsF c a last l = true → l.length ≤ (c.1.2.1 - 1 - last).toNat
  | [], _, _ => by simp
  | s :: r, last, h => by
    unfold setsF at h
    split at h
    · cases h
    · split at h
      · cases h
      · split at h
        · cases h
        · have := setsF_len h
          simp only [List.length_cons]
          omega
theorem makesF_len {c : EChk} {a : Int} : ∀ {l : List EMake} {last : Int}, makesF c a last l = true → l.length ≤ ((c.2.2.2.2.1.length : Int) - 1 - last).toNat ∧ ∀ m ∈ l, m.2.2.2.length ≤ 100
  | [], _, _ => by simp
  | m :: r, last, h => by
    unfold makesF at h
    split at h
    · cases h
    · rename_i h1
      split at h
      · cases h
      · rename_i h2
        obtain ⟨q1, q2⟩ := makesF_len h
        have h2 : makeF c m a = true := by simpa using h2
        have hv := makeF_iff.1 h2
        refine ⟨?_, fun x hx => ?_⟩
        · simp only [List.length_cons]
          have := valueF_len hv.1
          omega
        · rcases List.mem_cons.1 hx with rfl | hx
          · exact hv.2.2.2.2.2.2.1
          · exact q2 x hx
theorem rightXF_iff {c : EChk} {x : EExit} {a : Int} : rightXF c x a = true ↔ (0 ≤ x.1 ∧ x.1 < (c.1.2.2.2.2.length : Int)) ∧ (0 ≤ x.2.1 ∧ x.2.1 ≤ 200) ∧ setsF c a (-1) x.2.2.1 = true ∧ makesF c a (-1) x.2.2.2 = true := by
  unfold rightXF
  by_cases h1 : x.1 < 0
  · rw [if_pos h1]; exact ⟨fun h => (by cases h), fun h => absurd h.1.1 (by omega)⟩
  · rw [if_neg h1]
    by_cases h2 : (c.1.2.2.2.2.length : Int) ≤ x.1
    · rw [if_pos h2]; exact ⟨fun h => (by cases h), fun h => absurd h.1.2 (by omega)⟩
    · rw [if_neg h2]
      by_cases h3 : x.2.1 < 0
      · rw [if_pos h3]; exact ⟨fun h => (by cases h), fun h => absurd h.2.1.1 (by omega)⟩
      · rw [if_neg h3]
        by_cases h4 : 200 < x.2.1
        · rw [if_pos h4]; exact ⟨fun h => (by cases h), fun h => absurd h.2.1.2 (by omega)⟩
        · rw [if_neg h4, Bool.and_eq_true]
          exact ⟨fun h => ⟨⟨by omega, by omega⟩, ⟨by omega, by omega⟩, h⟩, fun h => h.2.2⟩
theorem insF_iff {c : EChk} : ∀ {l : List EIns} {k : Nat}, insF c k l = 0 ↔ ∀ (i : Nat) (x : EIns), l[i]? = some x → (ofF x.1).2 = true ∧ formedF c (ofF x.1).1 x (k + i : Nat) = true
  | [], k => by unfold insF; simp
  | y :: r, k => by
    constructor
    · exact fun h => insF_at h
    · intro h
      have h0 := h 0 y rfl
      unfold insF
      rw [if_neg (by simp [h0.1]), if_neg (by have := h0.2; simp at this; simp [this])]
      refine insF_iff.2 fun i x hx => ?_
      have := h (i + 1) x (by simpa using hx)
      rwa [show k + (i + 1) = k + 1 + i by omega] at this
theorem exitsF_iff {c : EChk} {n : Int} : ∀ {l : List EExit}, exitsF c n l = 0 ↔ ∀ x ∈ l, rightXF c x n = true
  | [] => by unfold exitsF; simp
  | y :: r => by
    unfold exitsF
    by_cases h : rightXF c y n = true
    · rw [if_neg (by simp [h])]
      rw [exitsF_iff]
      simp [h]
    · rw [if_pos (by simpa using h)]
      constructor
      · intro h; cases h
      · intro q; exact absurd (q y (by simp)) h
/-- The checker of a trace. -/
def chkOf (p : EProg) (t : ETrace) : EChk := (p.1.getD (Int.toNat t.1) tFn.dflt, t)
structure CheckOk (p : EProg) (t : ETrace) : Prop where
  code : codeF p = 0
  n : t.2.2.2.1.length ≤ 300
  m : t.2.2.2.2.1.length ≤ 200
  fn0 : 0 ≤ t.1
  fn1 : t.1 < (p.1.length : Int)
  at0 : 0 ≤ t.2.1
  at1 : t.2.1 < ((chkOf p t).1.2.2.2.2.length : Int)
  loop0 : 0 ≤ t.2.2.1
  loop1 : t.2.2.1 ≤ (t.2.2.2.1.length : Int)
  ins : ∀ (i : Nat) (x : EIns), t.2.2.2.1[i]? = some x → (ofF x.1).2 = true ∧ formedF (chkOf p t) (ofF x.1).1 x (i : Nat) = true
  turn0 : t.2.2.1 = 0 → bareF t.2.2.2.2.2.1 = true
  turn1 : 0 < t.2.2.1 → t.2.2.2.2.2.1.1 = t.2.1 ∧ rightXF (chkOf p t) t.2.2.2.2.2.1 t.2.2.1 = true
  back : t.2.2.2.2.2.2.1 = t.2.1 ∧ rightXF (chkOf p t) t.2.2.2.2.2.2 (t.2.2.2.1.length : Int) = true
  exits : ∀ x ∈ t.2.2.2.2.1, rightXF (chkOf p t) x (t.2.2.2.1.length : Int) = true
theorem sizeOk_iff {t : ETrace} : sizeOk t = true ↔ t.2.2.2.1.length ≤ 300 ∧ t.2.2.2.2.1.length ≤ 200 := by
  unfold sizeOk
  by_cases h1 : (300 : Int) < (t.2.2.2.1.length : Int)
  · rw [if_pos h1]; exact ⟨fun h => (by cases h), fun h => absurd h.1 (by omega)⟩
  · rw [if_neg h1]
    by_cases h2 : (200 : Int) < (t.2.2.2.2.1.length : Int)
    · rw [if_pos h2]; exact ⟨fun h => (by cases h), fun h => absurd h.2 (by omega)⟩
    · rw [if_neg h2]; exact ⟨fun _ => ⟨by omega, by omega⟩, fun _ => rfl⟩
theorem headOk_iff {p : EProg} {t : ETrace} : headOk p t = true ↔ 0 ≤ t.1 ∧ t.1 < (p.1.length : Int) ∧ 0 ≤ t.2.1 ∧ t.2.1 < ((chkOf p t).1.2.2.2.2.length : Int) ∧ 0 ≤ t.2.2.1 ∧ t.2.2.1 ≤ (t.2.2.2.1.length : Int) := by
  unfold headOk
  repeat' split
  all_goals first
    | (refine ⟨fun _ => ⟨?_, ?_, ?_, ?_, ?_, ?_⟩, fun _ => rfl⟩ <;> (try simp only [chkOf]) <;> omega)
    | (simp only [false_iff, Bool.false_eq_true]; rintro ⟨q1, q2, q3, q4, q5, q6⟩; simp only [chkOf] at q4; omega)
theorem turnOk_iff {c : EChk} {t : ETrace} (h0 : 0 ≤ t.2.2.1) : turnOk c t = true ↔ (t.2.2.1 = 0 → bareF t.2.2.2.2.2.1 = true) ∧ (0 < t.2.2.1 → t.2.2.2.2.2.1.1 = t.2.1 ∧ rightXF c t.2.2.2.2.2.1 t.2.2.1 = true) := by
  unfold turnOk
  by_cases h : t.2.2.1 = 0
  · rw [if_pos h, if_neg (by omega)]
    simp [h]
  · rw [if_neg h, if_pos (by omega)]
    simp [h, show 0 < t.2.2.1 by omega]
theorem check_iff {p : EProg} {t : ETrace} : checkF p t = 0 ↔ CheckOk p t := by
  constructor
  · intro h
    unfold checkF at h
    split at h
    · rename_i hc
      unfold check4F at h
      split at h
      · rename_i hs
        split at h
        · rename_i hh
          unfold bodyF thenF at h
          split at h
          · rename_i hi
            unfold end1F at h
            split at h
            · rename_i ht
              unfold end2F at h
              split at h
              · rename_i hb
                obtain ⟨s1, s2⟩ := sizeOk_iff.1 hs
                obtain ⟨q1, q2, q3, q4, q5, q6⟩ := headOk_iff.1 hh
                obtain ⟨t1, t2⟩ := (turnOk_iff q5).1 ht
                unfold backOk at hb
                rw [Bool.and_eq_true, decide_eq_true_eq] at hb
                exact ⟨hc, s1, s2, q1, q2, q3, q4, q5, q6, fun i x hx => by have := insF_iff.1 hi i x hx; rw [Nat.zero_add] at this; exact this, t1, t2, hb, exitsF_iff.1 h⟩
              · cases h
            · cases h
          · rename_i hi; exact absurd h hi
        · cases h
      · cases h
    · rename_i hc; exact absurd h hc
  · rintro ⟨hc, s1, s2, q1, q2, q3, q4, q5, q6, hi, t1, t2, hb, he⟩
    have e : checkF p t = (if codeF p = 0 then (if sizeOk t = true then (if headOk p t = true then bodyF (chkOf p t) t else 3) else 2) else codeF p) := rfl
    rw [e, if_pos hc, if_pos (sizeOk_iff.2 ⟨s1, s2⟩), if_pos (headOk_iff.2 ⟨q1, q2, q3, q4, q5, q6⟩)]
    unfold bodyF thenF
    rw [if_pos (insF_iff.2 fun i x hx => by have := hi i x hx; rw [Nat.zero_add]; exact this)]
    unfold end1F
    rw [if_pos ((turnOk_iff q5).2 ⟨t1, t2⟩)]
    unfold end2F
    rw [if_pos (by unfold backOk; rw [Bool.and_eq_true, decide_eq_true_eq]; exact hb)]
    exact exitsF_iff.2 he
theorem code_regs {p : EProg} (h : codeF p = 0) : ∀ f ∈ p.1, f.2.2.2.2.length ≤ 600 ∧ f.2.1 ≤ 60 := by
  refine large_fns ?_
  cases hl : largeF (toProg p) with
  | false => rfl
  | true =>
    unfold codeF at h
    rw [if_pos hl] at h
    exact absurd h (by decide)
theorem CheckOk.regs {p : EProg} {t : ETrace} (h : CheckOk p t) : (chkOf p t).1.2.1 ≤ 60 := by
  have h0 := h.fn0
  have h1 := h.fn1
  exact (code_regs h.code _ (getD_mem (α := EFn) (Ty.dflt tFn) (by omega : Int.toNat t.1 < p.1.length))).2
theorem bareF_iff {x : EExit} : bareF x = true ↔ x = (0, 0, [], []) := by
  obtain ⟨a, b, c, d⟩ := x
  unfold bareF
  simp only
  by_cases h1 : a = 0
  · rw [if_pos h1]
    by_cases h2 : b = 0
    · rw [if_pos h2]
      by_cases h3 : (c.length : Int) = 0
      · rw [if_pos h3]
        have : c = [] := List.eq_nil_of_length_eq_zero (by omega)
        subst this; subst h1; subst h2
        rw [decide_eq_true_eq]
        constructor
        · intro h
          have : d = [] := List.eq_nil_of_length_eq_zero (by omega)
          subst this; rfl
        · intro h
          injection h with _ h; injection h with _ h; injection h with _ h; subst h; rfl
      · rw [if_neg h3]
        exact ⟨fun h => (by cases h), fun h => by injection h with _ h; injection h with _ h; injection h with h; subst h; exact absurd rfl h3⟩
    · rw [if_neg h2]
      exact ⟨fun h => (by cases h), fun h => by injection h with _ h; injection h with h; exact absurd h h2⟩
  · rw [if_neg h1]
    exact ⟨fun h => (by cases h), fun h => by injection h with h; exact absurd h h1⟩
end Go.Proofs.YtefkifdhjabdiaaDoor
namespace Go.Proofs.YtefkifdhjabdiaaDoor
set_option linter.unusedVariables false
set_option linter.unusedSimpArgs false
theorem valueF_in {c : EChk} {v a : Int} (h : valueF c v a = true) : 0 ≤ v ∧ v < a ∧ v < (c.2.2.2.2.1.length : Int) := by
  unfold valueF at h
  by_cases h1 : 0 ≤ v
  · rw [if_pos h1] at h
    by_cases h2 : v < a
    · rw [if_pos h2] at h
      by_cases h3 : v < (c.2.2.2.2.1.length : Int)
      · exact ⟨h1, h2, h3⟩
      · rw [if_neg h3] at h; cases h
    · rw [if_neg h2] at h; cases h
  · rw [if_neg h1] at h; cases h
theorem mem_take3 {a b c : Int} {n : Nat} : (0 < n → a ∈ [a, b, c].take n) ∧ (1 < n → b ∈ [a, b, c].take n) ∧ (2 < n → c ∈ [a, b, c].take n) := by
  refine ⟨fun h => ?_, fun h => ?_, fun h => ?_⟩
  · rw [show n = (n - 1) + 1 by omega]; simp
  · rw [show n = (n - 2) + 1 + 1 by omega]; simp
  · rw [show n = (n - 3) + 1 + 1 + 1 by omega]; simp
theorem askF_le (x : EIns) : (askF x).length ≤ 3 := by
  unfold askF
  split
  · rw [List.length_take]; simp; omega
  · simp
theorem ask_in {p : EProg} {t : ETrace} (hc : CheckOk p t) {i : Nat} (hi : i < t.2.2.2.1.length) :
    ((0 : Int) < ((askF (t.2.2.2.1.getD i tIns.dflt)).length : Int) → 0 ≤ (t.2.2.2.1.getD i tIns.dflt).2.1 ∧ (t.2.2.2.1.getD i tIns.dflt).2.1 < (i : Int)) ∧
    ((1 : Int) < ((askF (t.2.2.2.1.getD i tIns.dflt)).length : Int) → 0 ≤ (t.2.2.2.1.getD i tIns.dflt).2.2.1 ∧ (t.2.2.2.1.getD i tIns.dflt).2.2.1 < (i : Int)) ∧
    ((2 : Int) < ((askF (t.2.2.2.1.getD i tIns.dflt)).length : Int) → 0 ≤ (t.2.2.2.1.getD i tIns.dflt).2.2.2.1 ∧ (t.2.2.2.1.getD i tIns.dflt).2.2.2.1 < (i : Int)) := by
  have ex : t.2.2.2.1[i]? = some (t.2.2.2.1.getD i tIns.dflt) := by rw [List.getD_eq_getElem?_getD, List.getElem?_eq_getElem hi]; rfl
  generalize hx : t.2.2.2.1.getD i tIns.dflt = x at ex ⊢
  obtain ⟨h1, h2⟩ := hc.ins i x ex
  unfold formedF at h2
  rw [Bool.and_eq_true] at h2
  have hv : ∀ v ∈ [x.2.1, x.2.2.1, x.2.2.2.1].take (ofF x.1).1.1.toNat, 0 ≤ v ∧ v < (i : Int) := fun v hm => by
    obtain ⟨q0, q1, _⟩ := valueF_in (List.all_eq_true.1 h2.1 v hm)
    exact ⟨q0, q1⟩
  have hl : (askF x).length ≤ (ofF x.1).1.1.toNat := by
    unfold askF
    rw [if_pos h1, List.length_take]
    omega
  obtain ⟨m0, m1, m2⟩ := mem_take3 (a := x.2.1) (b := x.2.2.1) (c := x.2.2.2.1) (n := (ofF x.1).1.1.toNat)
  exact ⟨fun h => hv _ (m0 (by omega)), fun h => hv _ (m1 (by omega)), fun h => hv _ (m2 (by omega))⟩
end Go.Proofs.YtefkifdhjabdiaaDoor
namespace Go.Proofs.YtefkifdhjabdiaaDoor
set_option maxHeartbeats 4000000
set_option linter.unusedVariables false
set_option linter.unusedSimpArgs false
set_option maxRecDepth 100000
def stepP (to : List Int) (n k v : Int) : Int := if k < n then to.getD (Int.toNat v) tI.dflt else v
def putN (x : EIns) : Int := ((askF x).length : Int)
def putI (x : EIns) (to : List Int) : EIns := (x.1, stepP to (putN x) 0 x.2.1, stepP to (putN x) 1 x.2.2.1, stepP to (putN x) 2 x.2.2.2.1, x.2.2.2.2)
noncomputable def oc_putf : Orc where
  pure := fun f args => match f, args with
    | 18, [a0] => match dA tIns a0 with
      | some x0 => some (.c (.ro tI (askF x0)))
      | _ => none
    | _, _ => none
  heap := fun _ _ _ => none
def putf_lv : LV := ⟨(false :: true :: true :: false :: true :: true :: F4 (F2 (false :: true :: true :: F16 (F2 ([]))))), []⟩
abbrev bEg2 : AB := .cells 46 [.int .i64 0, .int .i64 0, .int .i64 0, .int .i64 0, .int .i64 0, .int .i64 0, .int .i64 0, .int .i64 0]
noncomputable def putf_T (x : EIns) (to : List Int) : Tree :=
  .call 18 [.agg (Ty.enc tIns x)] false (.c (.ro tI (askF x))) <|
  .stop (lp (bodyOf Tryd.f66) 0) (.junk :: .c (.ro tI to) :: .c (.ptr 0 0 0 0) :: .junk :: .c (.ptr 1 0 0 0) :: .c (.sl 2 1 0 3) :: J4 (J2 (.junk :: .c (.int .i64 ((askF x).length : Int)) :: .c (.int .i64 0) :: J16 (J2 ([]))))) [.cells 46 (Ty.enc tIns x), bEg2, .cells 101 [.ptr 0 0 0 1, .ptr 0 0 0 2, .ptr 0 0 0 3]]
theorem putf_T_ok (x : EIns) (to : List Int) : aRun Tryd.prog oc_putf Tryd.f66 putf_lv 3000 [.code (bodyOf Tryd.f66)] ([.agg (tIns.enc x), .c (.ro tI to)] ++ List.replicate (Func.ntmps Tryd.f66 - 2) .junk) [] = putf_T x to := by kernel_rfl
abbrev bEg0 (x : EIns) (a0 : Int) (a1 : Int) (a2 : Int) : AB := .cells 46 [.int .i64 x.1, .int .i64 a0, .int .i64 a1, .int .i64 a2, .int .i64 x.2.2.2.2.1, .int .i64 x.2.2.2.2.2.1, .int .i64 x.2.2.2.2.2.2.1, .int .i64 x.2.2.2.2.2.2.2]
abbrev bEg1 (x : EIns) (a0 : Int) (a1 : Int) (a2 : Int) : List CV := [.int .i64 x.1, .int .i64 a0, .int .i64 a1, .int .i64 a2, .int .i64 x.2.2.2.2.1, .int .i64 x.2.2.2.2.2.1, .int .i64 x.2.2.2.2.2.2.1, .int .i64 x.2.2.2.2.2.2.2]
noncomputable def putf_i3_R (x : EIns) (to : List Int) (a0 : Int) (a1 : Int) (a2 : Int) : Tree :=
  .ite (decide ((3 : Int) < ((askF x).length : Int)))
  (.need ((0 : Int) ≤ 3 ∧ (3 : Int) < ((3 : Nat) : Int)) <|
   .fail 10)
  (.ret (.agg (bEg1 x a0 a1 a2)) [(bEg0 x a0 a1 a2), (bEg0 x a0 a1 a2), .cells 101 [.ptr 0 0 0 1, .ptr 0 0 0 2, .ptr 0 0 0 3]])
theorem putf_i3_R_ok (x : EIns) (to : List Int) (a0 : Int) (a1 : Int) (a2 : Int) : aRound Tryd.prog oc_putf Tryd.f66 putf_lv 3000 (lp (bodyOf Tryd.f66) 0) (.junk :: .c (.ro tI to) :: .c (.ptr 0 0 0 0) :: .junk :: .c (.ptr 1 0 0 0) :: .c (.sl 2 1 0 3) :: J4 (J2 (.junk :: .c (.int .i64 ((askF x).length : Int)) :: .c (.int .i64 3) :: J16 (J2 ([]))))) [(bEg0 x a0 a1 a2), bEg2, .cells 101 [.ptr 0 0 0 1, .ptr 0 0 0 2, .ptr 0 0 0 3]] = putf_i3_R x to a0 a1 a2 := by kernel_rfl
noncomputable def putf_i2_R (x : EIns) (to : List Int) (a0 : Int) (a1 : Int) (a2 : Int) : Tree :=
  .ite (decide ((2 : Int) < ((askF x).length : Int)))
  (.need ((0 : Int) ≤ 2 ∧ (2 : Int) < ((3 : Nat) : Int)) <|
   .need ((0 : Int) ≤ 2 ∧ (2 : Int) < ((3 : Nat) : Int)) <|
   .need ((0 : Int) ≤ a2 ∧ (a2 : Int) < (to.length : Int)) <|
   .need ((Int.toNat a2) < to.length) <|
   .need (inR .i64 (2 + 1)) <|
   .stop (lp (bodyOf Tryd.f66) 0) (.junk :: .c (.ro tI to) :: .c (.ptr 0 0 0 0) :: .junk :: .c (.ptr 1 0 0 0) :: .c (.sl 2 1 0 3) :: J4 (J2 (.junk :: .c (.int .i64 ((askF x).length : Int)) :: .c (.int .i64 (2 + 1)) :: J16 (J2 ([]))))) [.cells 46 [.int .i64 x.1, .int .i64 a0, .int .i64 a1, .int .i64 (to.getD (Int.toNat a2) tI.dflt), .int .i64 x.2.2.2.2.1, .int .i64 x.2.2.2.2.2.1, .int .i64 x.2.2.2.2.2.2.1, .int .i64 x.2.2.2.2.2.2.2], bEg2, .cells 101 [.ptr 0 0 0 1, .ptr 0 0 0 2, .ptr 0 0 0 3]])
  (.ret (.agg (bEg1 x a0 a1 a2)) [(bEg0 x a0 a1 a2), (bEg0 x a0 a1 a2), .cells 101 [.ptr 0 0 0 1, .ptr 0 0 0 2, .ptr 0 0 0 3]])
theorem putf_i2_R_ok (x : EIns) (to : List Int) (a0 : Int) (a1 : Int) (a2 : Int) : aRound Tryd.prog oc_putf Tryd.f66 putf_lv 3000 (lp (bodyOf Tryd.f66) 0) (.junk :: .c (.ro tI to) :: .c (.ptr 0 0 0 0) :: .junk :: .c (.ptr 1 0 0 0) :: .c (.sl 2 1 0 3) :: J4 (J2 (.junk :: .c (.int .i64 ((askF x).length : Int)) :: .c (.int .i64 2) :: J16 (J2 ([]))))) [(bEg0 x a0 a1 a2), bEg2, .cells 101 [.ptr 0 0 0 1, .ptr 0 0 0 2, .ptr 0 0 0 3]] = putf_i2_R x to a0 a1 a2 := by kernel_rfl
noncomputable def putf_i1_R (x : EIns) (to : List Int) (a0 : Int) (a1 : Int) (a2 : Int) : Tree :=
  .ite (decide ((1 : Int) < ((askF x).length : Int)))
  (.need ((0 : Int) ≤ 1 ∧ (1 : Int) < ((3 : Nat) : Int)) <|
   .need ((0 : Int) ≤ 1 ∧ (1 : Int) < ((3 : Nat) : Int)) <|
   .need ((0 : Int) ≤ a1 ∧ (a1 : Int) < (to.length : Int)) <|
   .need ((Int.toNat a1) < to.length) <|
   .need (inR .i64 (1 + 1)) <|
   .stop (lp (bodyOf Tryd.f66) 0) (.junk :: .c (.ro tI to) :: .c (.ptr 0 0 0 0) :: .junk :: .c (.ptr 1 0 0 0) :: .c (.sl 2 1 0 3) :: J4 (J2 (.junk :: .c (.int .i64 ((askF x).length : Int)) :: .c (.int .i64 (1 + 1)) :: J16 (J2 ([]))))) [.cells 46 [.int .i64 x.1, .int .i64 a0, .int .i64 (to.getD (Int.toNat a1) tI.dflt), .int .i64 a2, .int .i64 x.2.2.2.2.1, .int .i64 x.2.2.2.2.2.1, .int .i64 x.2.2.2.2.2.2.1, .int .i64 x.2.2.2.2.2.2.2], bEg2, .cells 101 [.ptr 0 0 0 1, .ptr 0 0 0 2, .ptr 0 0 0 3]])
  (.ret (.agg (bEg1 x a0 a1 a2)) [(bEg0 x a0 a1 a2), (bEg0 x a0 a1 a2), .cells 101 [.ptr 0 0 0 1, .ptr 0 0 0 2, .ptr 0 0 0 3]])
theorem putf_i1_R_ok (x : EIns) (to : List Int) (a0 : Int) (a1 : Int) (a2 : Int) : aRound Tryd.prog oc_putf Tryd.f66 putf_lv 3000 (lp (bodyOf Tryd.f66) 0) (.junk :: .c (.ro tI to) :: .c (.ptr 0 0 0 0) :: .junk :: .c (.ptr 1 0 0 0) :: .c (.sl 2 1 0 3) :: J4 (J2 (.junk :: .c (.int .i64 ((askF x).length : Int)) :: .c (.int .i64 1) :: J16 (J2 ([]))))) [(bEg0 x a0 a1 a2), bEg2, .cells 101 [.ptr 0 0 0 1, .ptr 0 0 0 2, .ptr 0 0 0 3]] = putf_i1_R x to a0 a1 a2 := by kernel_rfl
noncomputable def putf_i0_R (x : EIns) (to : List Int) (a0 : Int) (a1 : Int) (a2 : Int) : Tree :=
  .ite (decide ((0 : Int) < ((askF x).length : Int)))
  (.need ((0 : Int) ≤ 0 ∧ (0 : Int) < ((3 : Nat) : Int)) <|
   .need ((0 : Int) ≤ 0 ∧ (0 : Int) < ((3 : Nat) : Int)) <|
   .need ((0 : Int) ≤ a0 ∧ (a0 : Int) < (to.length : Int)) <|
   .need ((Int.toNat a0) < to.length) <|
   .need (inR .i64 (0 + 1)) <|
   .stop (lp (bodyOf Tryd.f66) 0) (.junk :: .c (.ro tI to) :: .c (.ptr 0 0 0 0) :: .junk :: .c (.ptr 1 0 0 0) :: .c (.sl 2 1 0 3) :: J4 (J2 (.junk :: .c (.int .i64 ((askF x).length : Int)) :: .c (.int .i64 (0 + 1)) :: J16 (J2 ([]))))) [.cells 46 [.int .i64 x.1, .int .i64 (to.getD (Int.toNat a0) tI.dflt), .int .i64 a1, .int .i64 a2, .int .i64 x.2.2.2.2.1, .int .i64 x.2.2.2.2.2.1, .int .i64 x.2.2.2.2.2.2.1, .int .i64 x.2.2.2.2.2.2.2], bEg2, .cells 101 [.ptr 0 0 0 1, .ptr 0 0 0 2, .ptr 0 0 0 3]])
  (.ret (.agg (bEg1 x a0 a1 a2)) [(bEg0 x a0 a1 a2), (bEg0 x a0 a1 a2), .cells 101 [.ptr 0 0 0 1, .ptr 0 0 0 2, .ptr 0 0 0 3]])
theorem putf_i0_R_ok (x : EIns) (to : List Int) (a0 : Int) (a1 : Int) (a2 : Int) : aRound Tryd.prog oc_putf Tryd.f66 putf_lv 3000 (lp (bodyOf Tryd.f66) 0) (.junk :: .c (.ro tI to) :: .c (.ptr 0 0 0 0) :: .junk :: .c (.ptr 1 0 0 0) :: .c (.sl 2 1 0 3) :: J4 (J2 (.junk :: .c (.int .i64 ((askF x).length : Int)) :: .c (.int .i64 0) :: J16 (J2 ([]))))) [(bEg0 x a0 a1 a2), bEg2, .cells 101 [.ptr 0 0 0 1, .ptr 0 0 0 2, .ptr 0 0 0 3]] = putf_i0_R x to a0 a1 a2 := by kernel_rfl
theorem putf_i3 (x : EIns) (to : List Int) (a0 : Int) (a1 : Int) (a2 : Int) (ha : ((askF x).length : Int) ≤ 3)  : Run Tryd.prog 66 (retQ Tryd.prog (.agg (Ty.enc tIns ((x.1, a0, a1, a2, x.2.2.2.2))))) (lp (bodyOf Tryd.f66) 0) (.junk :: .c (.ro tI to) :: .c (.ptr 0 0 0 0) :: .junk :: .c (.ptr 1 0 0 0) :: .c (.sl 2 1 0 3) :: J4 (J2 (.junk :: .c (.int .i64 ((askF x).length : Int)) :: .c (.int .i64 3) :: J16 (J2 ([]))))) [(bEg0 x a0 a1 a2), bEg2, .cells 101 [.ptr 0 0 0 1, .ptr 0 0 0 2, .ptr 0 0 0 3]] :=
  Run.roundA oc_putf putf_lv 3000 Tryd.func66 mixed (putf_i3_R x to a0 a1 a2) (putf_i3_R_ok x to a0 a1 a2) (by
    unfold putf_i3_R
    refine g_iteD (fun h0 => ?_) (fun h0 => ?_)
    · refine g_need (by omega) ?_
      exact (show False from by omega)
    · refine g_rq ?_
      exact g_rl (⟨⟨rfl, (show (x.1 : Int) = (x.1, a0, a1, a2, x.2.2.2.2).1 from by rfl)⟩, ⟨rfl, (show (a0 : Int) = (x.1, a0, a1, a2, x.2.2.2.2).2.1 from by rfl)⟩, ⟨rfl, (show (a1 : Int) = (x.1, a0, a1, a2, x.2.2.2.2).2.2.1 from by rfl)⟩, ⟨rfl, (show (a2 : Int) = (x.1, a0, a1, a2, x.2.2.2.2).2.2.2.1 from by rfl)⟩, ⟨rfl, (show (x.2.2.2.2.1 : Int) = (x.1, a0, a1, a2, x.2.2.2.2).2.2.2.2.1 from by rfl)⟩, ⟨rfl, (show (x.2.2.2.2.2.1 : Int) = (x.1, a0, a1, a2, x.2.2.2.2).2.2.2.2.2.1 from by rfl)⟩, ⟨rfl, (show (x.2.2.2.2.2.2.1 : Int) = (x.1, a0, a1, a2, x.2.2.2.2).2.2.2.2.2.2.1 from by rfl)⟩, ⟨rfl, (show (x.2.2.2.2.2.2.2 : Int) = (x.1, a0, a1, a2, x.2.2.2.2).2.2.2.2.2.2.2 from by rfl)⟩, trivial⟩) rfl
    )
theorem putf_i2 (x : EIns) (to : List Int) (a0 : Int) (a1 : Int) (a2 : Int) (ha : ((askF x).length : Int) ≤ 3) (hv2 : (2 : Int) < ((askF x).length : Int) → 0 ≤ a2 ∧ a2 < (to.length : Int)) : Run Tryd.prog 66 (retQ Tryd.prog (.agg (Ty.enc tIns ((x.1, a0, a1, stepP to (putN x) 2 a2, x.2.2.2.2))))) (lp (bodyOf Tryd.f66) 0) (.junk :: .c (.ro tI to) :: .c (.ptr 0 0 0 0) :: .junk :: .c (.ptr 1 0 0 0) :: .c (.sl 2 1 0 3) :: J4 (J2 (.junk :: .c (.int .i64 ((askF x).length : Int)) :: .c (.int .i64 2) :: J16 (J2 ([]))))) [(bEg0 x a0 a1 a2), bEg2, .cells 101 [.ptr 0 0 0 1, .ptr 0 0 0 2, .ptr 0 0 0 3]] :=
  Run.roundA oc_putf putf_lv 3000 Tryd.func66 mixed (putf_i2_R x to a0 a1 a2) (putf_i2_R_ok x to a0 a1 a2) (by
    unfold putf_i2_R
    refine g_iteD (fun h0 => ?_) (fun h0 => ?_)
    · refine g_need (by omega) ?_
      refine g_need (by omega) ?_
      refine g_need (by omega) ?_
      refine g_need (by omega) ?_
      refine g_need (by rw [i64_iff]; omega) ?_
      refine g_stop (RunN.keep [0, 1, 2] (false :: true :: true :: false :: true :: true :: F4 (F2 (false :: true :: true :: F16 (F2 ([]))))) n0 (by decide) rfl rfl ?_)
      have ht := putf_i3 x to a0 a1 (to.getD (Int.toNat a2) tI.dflt) ha ; have e1 : stepP to (putN x) 2 a2 = to.getD (Int.toNat a2) tI.dflt := if_pos (show (2 : Int) < putN x from h0); rw [e1]; exact ht
    · refine g_rq ?_
      exact g_rl (⟨⟨rfl, (show (x.1 : Int) = (x.1, a0, a1, stepP to (putN x) 2 a2, x.2.2.2.2).1 from by rfl)⟩, ⟨rfl, (show (a0 : Int) = (x.1, a0, a1, stepP to (putN x) 2 a2, x.2.2.2.2).2.1 from by rfl)⟩, ⟨rfl, (show (a1 : Int) = (x.1, a0, a1, stepP to (putN x) 2 a2, x.2.2.2.2).2.2.1 from by rfl)⟩, ⟨rfl, (show (a2 : Int) = (x.1, a0, a1, stepP to (putN x) 2 a2, x.2.2.2.2).2.2.2.1 from by exact (if_neg (show ¬ (2 : Int) < putN x by unfold putN; omega)).symm)⟩, ⟨rfl, (show (x.2.2.2.2.1 : Int) = (x.1, a0, a1, stepP to (putN x) 2 a2, x.2.2.2.2).2.2.2.2.1 from by rfl)⟩, ⟨rfl, (show (x.2.2.2.2.2.1 : Int) = (x.1, a0, a1, stepP to (putN x) 2 a2, x.2.2.2.2).2.2.2.2.2.1 from by rfl)⟩, ⟨rfl, (show (x.2.2.2.2.2.2.1 : Int) = (x.1, a0, a1, stepP to (putN x) 2 a2, x.2.2.2.2).2.2.2.2.2.2.1 from by rfl)⟩, ⟨rfl, (show (x.2.2.2.2.2.2.2 : Int) = (x.1, a0, a1, stepP to (putN x) 2 a2, x.2.2.2.2).2.2.2.2.2.2.2 from by rfl)⟩, trivial⟩) rfl
    )
theorem putf_i1 (x : EIns) (to : List Int) (a0 : Int) (a1 : Int) (a2 : Int) (ha : ((askF x).length : Int) ≤ 3) (hv1 : (1 : Int) < ((askF x).length : Int) → 0 ≤ a1 ∧ a1 < (to.length : Int)) (hv2 : (2 : Int) < ((askF x).length : Int) → 0 ≤ a2 ∧ a2 < (to.length : Int)) : Run Tryd.prog 66 (retQ Tryd.prog (.agg (Ty.enc tIns ((x.1, a0, stepP to (putN x) 1 a1, stepP to (putN x) 2 a2, x.2.2.2.2))))) (lp (bodyOf Tryd.f66) 0) (.junk :: .c (.ro tI to) :: .c (.ptr 0 0 0 0) :: .junk :: .c (.ptr 1 0 0 0) :: .c (.sl 2 1 0 3) :: J4 (J2 (.junk :: .c (.int .i64 ((askF x).length : Int)) :: .c (.int .i64 1) :: J16 (J2 ([]))))) [(bEg0 x a0 a1 a2), bEg2, .cells 101 [.ptr 0 0 0 1, .ptr 0 0 0 2, .ptr 0 0 0 3]] :=
  Run.roundA oc_putf putf_lv 3000 Tryd.func66 mixed (putf_i1_R x to a0 a1 a2) (putf_i1_R_ok x to a0 a1 a2) (by
    unfold putf_i1_R
    refine g_iteD (fun h0 => ?_) (fun h0 => ?_)
    · refine g_need (by omega) ?_
      refine g_need (by omega) ?_
      refine g_need (by omega) ?_
      refine g_need (by omega) ?_
      refine g_need (by rw [i64_iff]; omega) ?_
      refine g_stop (RunN.keep [0, 1, 2] (false :: true :: true :: false :: true :: true :: F4 (F2 (false :: true :: true :: F16 (F2 ([]))))) n0 (by decide) rfl rfl ?_)
      have ht := putf_i2 x to a0 (to.getD (Int.toNat a1) tI.dflt) a2 ha hv2; have e1 : stepP to (putN x) 1 a1 = to.getD (Int.toNat a1) tI.dflt := if_pos (show (1 : Int) < putN x from h0); rw [e1]; exact ht
    · refine g_rq ?_
      exact g_rl (⟨⟨rfl, (show (x.1 : Int) = (x.1, a0, stepP to (putN x) 1 a1, stepP to (putN x) 2 a2, x.2.2.2.2).1 from by rfl)⟩, ⟨rfl, (show (a0 : Int) = (x.1, a0, stepP to (putN x) 1 a1, stepP to (putN x) 2 a2, x.2.2.2.2).2.1 from by rfl)⟩, ⟨rfl, (show (a1 : Int) = (x.1, a0, stepP to (putN x) 1 a1, stepP to (putN x) 2 a2, x.2.2.2.2).2.2.1 from by exact (if_neg (show ¬ (1 : Int) < putN x by unfold putN; omega)).symm)⟩, ⟨rfl, (show (a2 : Int) = (x.1, a0, stepP to (putN x) 1 a1, stepP to (putN x) 2 a2, x.2.2.2.2).2.2.2.1 from by exact (if_neg (show ¬ (2 : Int) < putN x by unfold putN; omega)).symm)⟩, ⟨rfl, (show (x.2.2.2.2.1 : Int) = (x.1, a0, stepP to (putN x) 1 a1, stepP to (putN x) 2 a2, x.2.2.2.2).2.2.2.2.1 from by rfl)⟩, ⟨rfl, (show (x.2.2.2.2.2.1 : Int) = (x.1, a0, stepP to (putN x) 1 a1, stepP to (putN x) 2 a2, x.2.2.2.2).2.2.2.2.2.1 from by rfl)⟩, ⟨rfl, (show (x.2.2.2.2.2.2.1 : Int) = (x.1, a0, stepP to (putN x) 1 a1, stepP to (putN x) 2 a2, x.2.2.2.2).2.2.2.2.2.2.1 from by rfl)⟩, ⟨rfl, (show (x.2.2.2.2.2.2.2 : Int) = (x.1, a0, stepP to (putN x) 1 a1, stepP to (putN x) 2 a2, x.2.2.2.2).2.2.2.2.2.2.2 from by rfl)⟩, trivial⟩) rfl
    )
theorem putf_i0 (x : EIns) (to : List Int) (a0 : Int) (a1 : Int) (a2 : Int) (ha : ((askF x).length : Int) ≤ 3) (hv0 : (0 : Int) < ((askF x).length : Int) → 0 ≤ a0 ∧ a0 < (to.length : Int)) (hv1 : (1 : Int) < ((askF x).length : Int) → 0 ≤ a1 ∧ a1 < (to.length : Int)) (hv2 : (2 : Int) < ((askF x).length : Int) → 0 ≤ a2 ∧ a2 < (to.length : Int)) : Run Tryd.prog 66 (retQ Tryd.prog (.agg (Ty.enc tIns ((x.1, stepP to (putN x) 0 a0, stepP to (putN x) 1 a1, stepP to (putN x) 2 a2, x.2.2.2.2))))) (lp (bodyOf Tryd.f66) 0) (.junk :: .c (.ro tI to) :: .c (.ptr 0 0 0 0) :: .junk :: .c (.ptr 1 0 0 0) :: .c (.sl 2 1 0 3) :: J4 (J2 (.junk :: .c (.int .i64 ((askF x).length : Int)) :: .c (.int .i64 0) :: J16 (J2 ([]))))) [(bEg0 x a0 a1 a2), bEg2, .cells 101 [.ptr 0 0 0 1, .ptr 0 0 0 2, .ptr 0 0 0 3]] :=
  Run.roundA oc_putf putf_lv 3000 Tryd.func66 mixed (putf_i0_R x to a0 a1 a2) (putf_i0_R_ok x to a0 a1 a2) (by
    unfold putf_i0_R
    refine g_iteD (fun h0 => ?_) (fun h0 => ?_)
    · refine g_need (by omega) ?_
      refine g_need (by omega) ?_
      refine g_need (by omega) ?_
      refine g_need (by omega) ?_
      refine g_need (by rw [i64_iff]; omega) ?_
      refine g_stop (RunN.keep [0, 1, 2] (false :: true :: true :: false :: true :: true :: F4 (F2 (false :: true :: true :: F16 (F2 ([]))))) n0 (by decide) rfl rfl ?_)
      have ht := putf_i1 x to (to.getD (Int.toNat a0) tI.dflt) a1 a2 ha hv1 hv2; have e1 : stepP to (putN x) 0 a0 = to.getD (Int.toNat a0) tI.dflt := if_pos (show (0 : Int) < putN x from h0); rw [e1]; exact ht
    · refine g_rq ?_
      exact g_rl (⟨⟨rfl, (show (x.1 : Int) = (x.1, stepP to (putN x) 0 a0, stepP to (putN x) 1 a1, stepP to (putN x) 2 a2, x.2.2.2.2).1 from by rfl)⟩, ⟨rfl, (show (a0 : Int) = (x.1, stepP to (putN x) 0 a0, stepP to (putN x) 1 a1, stepP to (putN x) 2 a2, x.2.2.2.2).2.1 from by exact (if_neg (show ¬ (0 : Int) < putN x by unfold putN; omega)).symm)⟩, ⟨rfl, (show (a1 : Int) = (x.1, stepP to (putN x) 0 a0, stepP to (putN x) 1 a1, stepP to (putN x) 2 a2, x.2.2.2.2).2.2.1 from by exact (if_neg (show ¬ (1 : Int) < putN x by unfold putN; omega)).symm)⟩, ⟨rfl, (show (a2 : Int) = (x.1, stepP to (putN x) 0 a0, stepP to (putN x) 1 a1, stepP to (putN x) 2 a2, x.2.2.2.2).2.2.2.1 from by exact (if_neg (show ¬ (2 : Int) < putN x by unfold putN; omega)).symm)⟩, ⟨rfl, (show (x.2.2.2.2.1 : Int) = (x.1, stepP to (putN x) 0 a0, stepP to (putN x) 1 a1, stepP to (putN x) 2 a2, x.2.2.2.2).2.2.2.2.1 from by rfl)⟩, ⟨rfl, (show (x.2.2.2.2.2.1 : Int) = (x.1, stepP to (putN x) 0 a0, stepP to (putN x) 1 a1, stepP to (putN x) 2 a2, x.2.2.2.2).2.2.2.2.2.1 from by rfl)⟩, ⟨rfl, (show (x.2.2.2.2.2.2.1 : Int) = (x.1, stepP to (putN x) 0 a0, stepP to (putN x) 1 a1, stepP to (putN x) 2 a2, x.2.2.2.2).2.2.2.2.2.2.1 from by rfl)⟩, ⟨rfl, (show (x.2.2.2.2.2.2.2 : Int) = (x.1, stepP to (putN x) 0 a0, stepP to (putN x) 1 a1, stepP to (putN x) 2 a2, x.2.2.2.2).2.2.2.2.2.2.2 from by rfl)⟩, trivial⟩) rfl
    )
theorem putf_fun (x : EIns) (to : List Int) (hv0 : (0 : Int) < ((askF x).length : Int) → 0 ≤ x.2.1 ∧ x.2.1 < (to.length : Int)) (hv1 : (1 : Int) < ((askF x).length : Int) → 0 ≤ x.2.2.1 ∧ x.2.2.1 < (to.length : Int)) (hv2 : (2 : Int) < ((askF x).length : Int) → 0 ≤ x.2.2.2.1 ∧ x.2.2.2.1 < (to.length : Int)) : AFun Tryd.prog 66 [.agg (tIns.enc x), .c (.ro tI to)] (.agg (Ty.enc tIns (putI x to))) :=
  AFun.of oc_putf putf_lv 3000 Tryd.func66 mixed rfl (by decide) (Nat.le_of_ble_eq_true rfl) _ (putf_T_ok x to) fun hF => by
    have ha := askF_le x
    unfold putf_T
    refine g_call (asks_fun x) (fun h => nomatch h) ?_
    refine g_stop (RunN.keep [0, 1, 2] (false :: true :: true :: false :: true :: true :: F4 (F2 (false :: true :: true :: F16 (F2 ([]))))) n0 (by decide) rfl rfl ?_)
    have ht := putf_i0 x to x.2.1 x.2.2.1 x.2.2.2.1 (by omega) hv0 hv1 hv2; exact ht

end Go.Proofs.YtefkifdhjabdiaaDoor
namespace Go.Proofs.YtefkifdhjabdiaaDoor
set_option linter.unusedVariables false
set_option linter.unusedSimpArgs false
set_option maxRecDepth 100000
def cutOne (at_ : List Int) (v : Int) : Int × Bool := if v < 0 then (-1, false) else if (at_.length : Int) ≤ v then (-1, false) else if at_.getD v.toNat tI.dflt < 0 then (-1, false) else (at_.getD v.toNat tI.dflt, true)
noncomputable def oc20 : Orc where
  pure := fun f args => match f, args with
    | _, _ => none
  heap := fun _ _ _ => none
def one_lv : LV := ⟨([]), []⟩
noncomputable def one_T (at_ : List Int) (fine : Bool) (v : Int) : Tree :=
  .ite (decide (v < 0))
  (.ret (.c (.int .i64 (-1))) [.cells 97 [.osl 1 1 at_.length, .lit false], .ovec 3 tI at_])
  (.ite (decide (((at_.length : Nat) : Int) ≤ v))
   (.ret (.c (.int .i64 (-1))) [.cells 97 [.osl 1 1 at_.length, .lit false], .ovec 3 tI at_])
   (.need ((0 : Int) ≤ v ∧ (v : Int) < ((at_.length : Nat) : Int)) <|
    .need ((Int.toNat v) < at_.length) <|
    .ite (decide ((at_.getD (Int.toNat v) tI.dflt) < 0))
    (.ret (.c (.int .i64 (-1))) [.cells 97 [.osl 1 1 at_.length, .lit false], .ovec 3 tI at_])
    (.need ((0 : Int) ≤ v ∧ (v : Int) < ((at_.length : Nat) : Int)) <|
     .need ((Int.toNat v) < at_.length) <|
     .ret (.c (.int .i64 (at_.getD (Int.toNat v) tI.dflt))) [.cells 97 [.osl 1 1 at_.length, .bool fine], .ovec 3 tI at_])))
theorem one_T_ok (at_ : List Int) (fine : Bool) (v : Int) : aRun Tryd.prog oc20 Tryd.f88 one_lv 3000 [.code (bodyOf Tryd.f88)] ([.c (.ptr 0 0 0 0), .c (.int .i64 v)] ++ List.replicate (Func.ntmps Tryd.f88 - 2) .junk) [.cells 97 [.osl 1 1 at_.length, .bool fine], .ovec 3 tI at_] = one_T at_ fine v := by kernel_rfl
theorem one_fun (at_ : List Int) (fine : Bool) (v : Int) : AFunH Tryd.prog 88 [.c (.ptr 0 0 0 0), .c (.int .i64 v)] [.cells 97 [.osl 1 1 at_.length, .bool fine], .ovec 3 tI at_] (.c (.int .i64 ((cutOne at_ v).1))) [.cells 97 [.osl 1 1 at_.length, .bool (fine && (cutOne at_ v).2)], .ovec 3 tI at_] (List.range 2) :=
  AFunH.ofL oc20 one_lv 3000 Tryd.func88 mixed rfl (by decide) (Nat.le_of_ble_eq_true rfl) rfl rfl (Nat.le_of_ble_eq_true rfl) _ (one_T_ok at_ fine v) fun hF => by
    unfold one_T
    refine g_iteD (fun h0 => ?_) (fun h0 => ?_)
    · refine g_fin ?_
      exact g_end [0, 1] (show ∀ k, k < 2 → ([0, 1] : List Nat)[k]? = some k by decide) (by decide) (⟨rfl, (show ((-1) : Int) = (cutOne at_ v).1 from by simp only [cutOne, h0, if_true, if_false, Bool.and_false, Bool.and_true])⟩) ⟨⟨rfl, leC.refl _, (show (false : Bool) = (fine && (cutOne at_ v).2) from by simp only [cutOne, h0, if_true, if_false, Bool.and_false, Bool.and_true]), trivial⟩, leB.refl _, trivial⟩
    · refine g_iteD (fun h1 => ?_) (fun h1 => ?_)
      · refine g_fin ?_
        exact g_end [0, 1] (show ∀ k, k < 2 → ([0, 1] : List Nat)[k]? = some k by decide) (by decide) (⟨rfl, (show ((-1) : Int) = (cutOne at_ v).1 from by simp only [cutOne, h0, h1, if_true, if_false, Bool.and_false, Bool.and_true])⟩) ⟨⟨rfl, leC.refl _, (show (false : Bool) = (fine && (cutOne at_ v).2) from by simp only [cutOne, h0, h1, if_true, if_false, Bool.and_false, Bool.and_true]), trivial⟩, leB.refl _, trivial⟩
      · refine g_need (by omega) ?_
        refine g_need (by omega) ?_
        refine g_iteD (fun h2 => ?_) (fun h2 => ?_)
        · refine g_fin ?_
          exact g_end [0, 1] (show ∀ k, k < 2 → ([0, 1] : List Nat)[k]? = some k by decide) (by decide) (⟨rfl, (show ((-1) : Int) = (cutOne at_ v).1 from by simp only [cutOne, h0, h1, h2, if_true, if_false, Bool.and_false, Bool.and_true])⟩) ⟨⟨rfl, leC.refl _, (show (false : Bool) = (fine && (cutOne at_ v).2) from by simp only [cutOne, h0, h1, h2, if_true, if_false, Bool.and_false, Bool.and_true]), trivial⟩, leB.refl _, trivial⟩
        · refine g_need (by omega) ?_
          refine g_need (by omega) ?_
          refine g_fin ?_
          exact g_end [0, 1] (show ∀ k, k < 2 → ([0, 1] : List Nat)[k]? = some k by decide) (by decide) (⟨rfl, (show ((at_.getD (Int.toNat v) tI.dflt) : Int) = (cutOne at_ v).1 from by simp only [cutOne, h0, h1, h2, if_true, if_false, Bool.and_false, Bool.and_true])⟩) ⟨⟨rfl, leC.refl _, (show (fine : Bool) = (fine && (cutOne at_ v).2) from by simp only [cutOne, h0, h1, h2, if_true, if_false, Bool.and_false, Bool.and_true]), trivial⟩, leB.refl _, trivial⟩

def cutSet (at_ : List Int) (s : EVal) : EVal := (s.1, (cutOne at_ s.2).1)
def cutSetOk (at_ : List Int) (s : EVal) : Bool := (cutOne at_ s.2).2
def cutMake (at_ : List Int) (m : EMake) : EMake := ((cutOne at_ m.1).1, m.2.1, m.2.2.1, m.2.2.2.map fun v => (cutOne at_ v).1)
def cutMakeOk (at_ : List Int) (m : EMake) : Bool := (cutOne at_ m.1).2 && m.2.2.2.all fun v => (cutOne at_ v).2
def cutExit (at_ : List Int) (x : EExit) : EExit := (x.1, x.2.1, x.2.2.1.map (cutSet at_), x.2.2.2.map (cutMake at_))
def cutExitOk (at_ : List Int) (x : EExit) : Bool := x.2.2.1.all (cutSetOk at_) && x.2.2.2.all (cutMakeOk at_)
/-- An exit of a size that can be. -/
def exitSm (x : EExit) : Prop := x.2.2.1.length ≤ 1000000 ∧ x.2.2.2.length ≤ 1000000 ∧ ∀ m ∈ x.2.2.2, m.2.2.2.length ≤ 1000000
noncomputable def oc21 : Orc where
  pure := fun f args => match f, args with
    | _, _ => none
  heap := fun f args H => match f, args with
    | 88, [.one (.c (.ptr b0 0 0 0)), a1] => match cellsAs 97 H[b0]? with
      | some [.osl b1 1 _, c0_1] => (match dA tI a1, dC .bool c0_1, ovecAs 3 tI H[b1]? with
        | some x1, some y0_1, some y1 => hres [b0, b1] H (.c (.int .i64 ((cutOne y1 x1).1))) [.cells 97 [.osl 1 1 y1.length, .bool (y0_1 && (cutOne y1 x1).2)], .ovec 3 tI y1]
        | _, _, _ => none)
      | _ => none
    | _, _ => none
def cexit_lv : LV := ⟨(true :: F2 (true :: true :: true :: F4 (true :: F8 (true :: true :: true :: F16 (false :: true :: true :: true :: F8 (F4 (false :: true :: true :: true :: F16 (F4 ([]))))))))), []⟩
noncomputable def cexit_T (at_ : List Int) (fine : Bool) (x : EExit) : Tree :=
  .stop (lp (bodyOf Tryd.f49) 0) (.c (.ptr 0 0 0 0) :: J2 (.c (.ptr 2 0 0 0) :: .c (.ptr 3 0 0 0) :: .c (.ptr 4 0 0 0) :: J8 (J4 (.junk :: .c (.ro tVal x.2.2.1) :: .c (.int .i64 (x.2.2.1.length : Int)) :: .c (.int .i64 0) :: J32 (J16 (J8 ([]))))))) [.cells 97 [.osl 1 1 at_.length, .bool fine], .ovec 3 tI at_, .cells 27 (Ty.enc tExit x), .cells 27 [.int .i64 0, .int .i64 0, .nilsl, .nilsl], .cells 27 [.int .i64 x.1, .int .i64 x.2.1, .nilsl, .nilsl]]
theorem cexit_T_ok (at_ : List Int) (fine : Bool) (x : EExit) : aRun Tryd.prog oc21 Tryd.f49 cexit_lv 3000 [.code (bodyOf Tryd.f49)] ([.c (.ptr 0 0 0 0), .agg (tExit.enc x)] ++ List.replicate (Func.ntmps Tryd.f49 - 2) .junk) [.cells 97 [.osl 1 1 at_.length, .bool fine], .ovec 3 tI at_] = cexit_T at_ fine x := by kernel_rfl
noncomputable def cexit_l0_R (at_ : List Int) (fine : Bool) (x : EExit) (i : Nat) (f : Bool) (ss : List EVal) : Tree :=
  .ite (decide (((i : Nat) : Int) < (x.2.2.1.length : Int)))
  (.need ((0 : Int) ≤ ((i : Nat) : Int) ∧ (((i : Nat) : Int) : Int) < (x.2.2.1.length : Int)) <|
   .need (i < x.2.2.1.length) <|
   .callH 88 [.c (.ptr 0 0 0 0), .c (.int .i64 (x.2.2.1.getD i tVal.dflt).2)] [.cells 97 [.osl 1 1 at_.length, .bool f], .ovec 3 tI at_, .cells 27 (Ty.enc tExit x), .cells 27 [.int .i64 0, .int .i64 0, .nilsl, .nilsl], .cells 27 [.int .i64 x.1, .int .i64 x.2.1, .osl 5 2 ss.length, .nilsl], .ovec 116 tVal ss, .cells 116 [.int .i64 (x.2.2.1.getD i tVal.dflt).1, .int .i64 (x.2.2.1.getD i tVal.dflt).2]] (.c (.int .i64 (cutOne at_ (x.2.2.1.getD i tVal.dflt).2).1)) [.cells 97 [.osl 1 1 at_.length, .bool (f && (cutOne at_ (x.2.2.1.getD i tVal.dflt).2).2)], .ovec 3 tI at_, .cells 27 (Ty.enc tExit x), .cells 27 [.int .i64 0, .int .i64 0, .nilsl, .nilsl], .cells 27 [.int .i64 x.1, .int .i64 x.2.1, .osl 5 2 ss.length, .nilsl], .ovec 116 tVal ss, .cells 116 [.int .i64 (x.2.2.1.getD i tVal.dflt).1, .int .i64 (x.2.2.1.getD i tVal.dflt).2]] [0, 1] <|
   .need (ss.length = ss.length) <|
   .need (0 = 0 ∧ 1 = ([((x.2.2.1.getD i tVal.dflt).1, (cutOne at_ (x.2.2.1.getD i tVal.dflt).2).1)]).length) <|
   .need ((ss.length + ([((x.2.2.1.getD i tVal.dflt).1, (cutOne at_ (x.2.2.1.getD i tVal.dflt).2).1)]).length) * 16 ≤ 140737488355328) <|
   .need (inR .i64 (((i : Nat) : Int) + 1)) <|
   .stop (lp (bodyOf Tryd.f49) 0) (.c (.ptr 0 0 0 0) :: J2 (.c (.ptr 2 0 0 0) :: .c (.ptr 3 0 0 0) :: .c (.ptr 4 0 0 0) :: J8 (J4 (.junk :: .c (.ro tVal x.2.2.1) :: .c (.int .i64 (x.2.2.1.length : Int)) :: .c (.int .i64 (((i : Nat) : Int) + 1)) :: J32 (J16 (J8 ([]))))))) [.cells 97 [.osl 1 1 at_.length, .bool (f && (cutOne at_ (x.2.2.1.getD i tVal.dflt).2).2)], .ovec 3 tI at_, .cells 27 (Ty.enc tExit x), .cells 27 [.int .i64 0, .int .i64 0, .nilsl, .nilsl], .cells 27 [.int .i64 x.1, .int .i64 x.2.1, .osl 8 2 (ss ++ [((x.2.2.1.getD i tVal.dflt).1, (cutOne at_ (x.2.2.1.getD i tVal.dflt).2).1)]).length, .nilsl], .dead, .cells 116 [.int .i64 (x.2.2.1.getD i tVal.dflt).1, .int .i64 (x.2.2.1.getD i tVal.dflt).2], .vec 116 tVal ([((x.2.2.1.getD i tVal.dflt).1, (cutOne at_ (x.2.2.1.getD i tVal.dflt).2).1)]), .ovec 116 tVal (ss ++ [((x.2.2.1.getD i tVal.dflt).1, (cutOne at_ (x.2.2.1.getD i tVal.dflt).2).1)])])
  (.stop (lp (bodyOf Tryd.f49) 1) (.c (.ptr 0 0 0 0) :: J2 (.c (.ptr 2 0 0 0) :: .c (.ptr 3 0 0 0) :: .c (.ptr 4 0 0 0) :: J8 (J4 (.junk :: .c (.ro tVal x.2.2.1) :: .c (.int .i64 (x.2.2.1.length : Int)) :: .c (.int .i64 ((i : Nat) : Int)) :: J16 (.junk :: .c (.ro tMake x.2.2.2) :: .c (.int .i64 (x.2.2.2.length : Int)) :: .c (.int .i64 0) :: J32 (J4 ([]))))))) [.cells 97 [.osl 1 1 at_.length, .bool f], .ovec 3 tI at_, .cells 27 (Ty.enc tExit x), .cells 27 [.int .i64 0, .int .i64 0, .nilsl, .nilsl], .cells 27 [.int .i64 x.1, .int .i64 x.2.1, .osl 5 2 ss.length, .nilsl], .ovec 116 tVal ss])
theorem cexit_l0_R_ok (at_ : List Int) (fine : Bool) (x : EExit) (i : Nat) (f : Bool) (ss : List EVal) : aRound Tryd.prog oc21 Tryd.f49 cexit_lv 3000 (lp (bodyOf Tryd.f49) 0) (.c (.ptr 0 0 0 0) :: J2 (.c (.ptr 2 0 0 0) :: .c (.ptr 3 0 0 0) :: .c (.ptr 4 0 0 0) :: J8 (J4 (.junk :: .c (.ro tVal x.2.2.1) :: .c (.int .i64 (x.2.2.1.length : Int)) :: .c (.int .i64 ((i : Nat) : Int)) :: J32 (J16 (J8 ([]))))))) [.cells 97 [.osl 1 1 at_.length, .bool f], .ovec 3 tI at_, .cells 27 (Ty.enc tExit x), .cells 27 [.int .i64 0, .int .i64 0, .nilsl, .nilsl], .cells 27 [.int .i64 x.1, .int .i64 x.2.1, .osl 5 2 ss.length, .nilsl], .ovec 116 tVal ss] = cexit_l0_R at_ fine x i f ss := by kernel_rfl
abbrev bCl0 (x : EExit) (j : Nat) : AB := .cells 118 [.int .i64 (x.2.2.2.getD j tMake.dflt).1, .int .i64 (x.2.2.2.getD j tMake.dflt).2.1, .int .i64 (x.2.2.2.getD j tMake.dflt).2.2.1, .ro tI (x.2.2.2.getD j tMake.dflt).2.2.2]
abbrev bCl6 (x : EExit) (ss : List EVal) (ms : List EMake) : AB := .cells 27 [.int .i64 x.1, .int .i64 x.2.1, .osl 4 2 ss.length, .osl 5 4 ms.length]
noncomputable def cexit_l1_R (at_ : List Int) (fine : Bool) (x : EExit) (j : Nat) (f : Bool) (ss : List EVal) (ms : List EMake) : Tree :=
  .ite (decide (((j : Nat) : Int) < (x.2.2.2.length : Int)))
  (.need ((0 : Int) ≤ ((j : Nat) : Int) ∧ (((j : Nat) : Int) : Int) < (x.2.2.2.length : Int)) <|
   .need (j < x.2.2.2.length) <|
   .callH 88 [.c (.ptr 0 0 0 0), .c (.int .i64 (x.2.2.2.getD j tMake.dflt).1)] [.cells 97 [.osl 1 1 at_.length, .bool f], .ovec 3 tI at_, .cells 27 [.int .i64 0, .int .i64 0, .nilsl, .nilsl], (bCl6 x ss ms), .ovec 116 tVal ss, .ovec 118 tMake ms, (bCl0 x j)] (.c (.int .i64 (cutOne at_ (x.2.2.2.getD j tMake.dflt).1).1)) [.cells 97 [.osl 1 1 at_.length, .bool (f && (cutOne at_ (x.2.2.2.getD j tMake.dflt).1).2)], .ovec 3 tI at_, .cells 27 [.int .i64 0, .int .i64 0, .nilsl, .nilsl], (bCl6 x ss ms), .ovec 116 tVal ss, .ovec 118 tMake ms, (bCl0 x j)] [0, 1] <|
   .stop (lp (bodyOf Tryd.f49) 2) (.c (.ptr 0 0 0 0) :: J2 (.junk :: .c (.ptr 2 0 0 0) :: .c (.ptr 3 0 0 0) :: J4 (.c (.ptr 7 0 0 0) :: J16 (J8 (J4 (.c (.ro tMake x.2.2.2) :: .c (.int .i64 (x.2.2.2.length : Int)) :: .c (.int .i64 ((j : Nat) : Int)) :: J8 (J4 (.junk :: .c (.ro tI (x.2.2.2.getD j tMake.dflt).2.2.2) :: .c (.int .i64 ((x.2.2.2.getD j tMake.dflt).2.2.2.length : Int)) :: .c (.int .i64 0) :: J16 (J4 ([])))))))))) [.cells 97 [.osl 1 1 at_.length, .bool (f && (cutOne at_ (x.2.2.2.getD j tMake.dflt).1).2)], .ovec 3 tI at_, .cells 27 [.int .i64 0, .int .i64 0, .nilsl, .nilsl], (bCl6 x ss ms), .ovec 116 tVal ss, .ovec 118 tMake ms, (bCl0 x j), .cells 118 [.int .i64 (cutOne at_ (x.2.2.2.getD j tMake.dflt).1).1, .int .i64 (x.2.2.2.getD j tMake.dflt).2.1, .int .i64 (x.2.2.2.getD j tMake.dflt).2.2.1, .nilsl]])
  (.ret (.agg [.int .i64 x.1, .int .i64 x.2.1, .osl 4 2 ss.length, .osl 5 4 ms.length]) [.cells 97 [.osl 1 1 at_.length, .bool f], .ovec 3 tI at_, (bCl6 x ss ms), (bCl6 x ss ms), .ovec 116 tVal ss, .ovec 118 tMake ms])
theorem cexit_l1_R_ok (at_ : List Int) (fine : Bool) (x : EExit) (j : Nat) (f : Bool) (ss : List EVal) (ms : List EMake) : aRound Tryd.prog oc21 Tryd.f49 cexit_lv 3000 (lp (bodyOf Tryd.f49) 1) (.c (.ptr 0 0 0 0) :: J2 (.junk :: .c (.ptr 2 0 0 0) :: .c (.ptr 3 0 0 0) :: J32 (.junk :: .c (.ro tMake x.2.2.2) :: .c (.int .i64 (x.2.2.2.length : Int)) :: .c (.int .i64 ((j : Nat) : Int)) :: J32 (J4 ([]))))) [.cells 97 [.osl 1 1 at_.length, .bool f], .ovec 3 tI at_, .cells 27 [.int .i64 0, .int .i64 0, .nilsl, .nilsl], (bCl6 x ss ms), .ovec 116 tVal ss, .ovec 118 tMake ms] = cexit_l1_R at_ fine x j f ss ms := by kernel_rfl
abbrev bCl1 (x : EExit) (j : Nat) (k : Nat) : List AV := (J4 (.junk :: .c (.ro tI (x.2.2.2.getD j tMake.dflt).2.2.2) :: .c (.int .i64 ((x.2.2.2.getD j tMake.dflt).2.2.2.length : Int)) :: .c (.int .i64 ((k : Nat) : Int)) :: J16 (J4 ([]))))
abbrev bCl2 (at_ : List Int) (x : EExit) (j : Nat) (vs : List Int) : AB := .cells 118 [.int .i64 (cutOne at_ (x.2.2.2.getD j tMake.dflt).1).1, .int .i64 (x.2.2.2.getD j tMake.dflt).2.1, .int .i64 (x.2.2.2.getD j tMake.dflt).2.2.1, .osl 7 1 vs.length]
noncomputable def cexit_l2_R (at_ : List Int) (fine : Bool) (x : EExit) (k : Nat) (j : Nat) (f : Bool) (ss : List EVal) (ms : List EMake) (vs : List Int) : Tree :=
  .ite (decide (((k : Nat) : Int) < ((x.2.2.2.getD j tMake.dflt).2.2.2.length : Int)))
  (.need ((0 : Int) ≤ ((k : Nat) : Int) ∧ (((k : Nat) : Int) : Int) < ((x.2.2.2.getD j tMake.dflt).2.2.2.length : Int)) <|
   .need (k < (x.2.2.2.getD j tMake.dflt).2.2.2.length) <|
   .callH 88 [.c (.ptr 0 0 0 0), .c (.int .i64 ((x.2.2.2.getD j tMake.dflt).2.2.2.getD k tI.dflt))] [.cells 97 [.osl 1 1 at_.length, .bool f], .ovec 3 tI at_, .cells 27 [.int .i64 0, .int .i64 0, .nilsl, .nilsl], (bCl6 x ss ms), .ovec 116 tVal ss, .ovec 118 tMake ms, (bCl2 at_ x j vs), .ovec 3 tI vs] (.c (.int .i64 (cutOne at_ ((x.2.2.2.getD j tMake.dflt).2.2.2.getD k tI.dflt)).1)) [.cells 97 [.osl 1 1 at_.length, .bool (f && (cutOne at_ ((x.2.2.2.getD j tMake.dflt).2.2.2.getD k tI.dflt)).2)], .ovec 3 tI at_, .cells 27 [.int .i64 0, .int .i64 0, .nilsl, .nilsl], (bCl6 x ss ms), .ovec 116 tVal ss, .ovec 118 tMake ms, (bCl2 at_ x j vs), .ovec 3 tI vs] [0, 1] <|
   .need (vs.length = vs.length) <|
   .need (0 = 0 ∧ 1 = ([(cutOne at_ ((x.2.2.2.getD j tMake.dflt).2.2.2.getD k tI.dflt)).1]).length) <|
   .need ((vs.length + ([(cutOne at_ ((x.2.2.2.getD j tMake.dflt).2.2.2.getD k tI.dflt)).1]).length) * 8 ≤ 140737488355328) <|
   .need (inR .i64 (((k : Nat) : Int) + 1)) <|
   .stop (lp (bodyOf Tryd.f49) 2) (.c (.ptr 0 0 0 0) :: J2 (.junk :: .c (.ptr 2 0 0 0) :: .c (.ptr 3 0 0 0) :: J4 (.c (.ptr 6 0 0 0) :: J16 (J8 (J4 (.c (.ro tMake x.2.2.2) :: .c (.int .i64 (x.2.2.2.length : Int)) :: .c (.int .i64 ((j : Nat) : Int)) :: J8 (J4 (.junk :: .c (.ro tI (x.2.2.2.getD j tMake.dflt).2.2.2) :: .c (.int .i64 ((x.2.2.2.getD j tMake.dflt).2.2.2.length : Int)) :: .c (.int .i64 (((k : Nat) : Int) + 1)) :: J16 (J4 ([])))))))))) [.cells 97 [.osl 1 1 at_.length, .bool (f && (cutOne at_ ((x.2.2.2.getD j tMake.dflt).2.2.2.getD k tI.dflt)).2)], .ovec 3 tI at_, .cells 27 [.int .i64 0, .int .i64 0, .nilsl, .nilsl], (bCl6 x ss ms), .ovec 116 tVal ss, .ovec 118 tMake ms, .cells 118 [.int .i64 (cutOne at_ (x.2.2.2.getD j tMake.dflt).1).1, .int .i64 (x.2.2.2.getD j tMake.dflt).2.1, .int .i64 (x.2.2.2.getD j tMake.dflt).2.2.1, .osl 9 1 (vs ++ [(cutOne at_ ((x.2.2.2.getD j tMake.dflt).2.2.2.getD k tI.dflt)).1]).length], .dead, .vec 3 tI ([(cutOne at_ ((x.2.2.2.getD j tMake.dflt).2.2.2.getD k tI.dflt)).1]), .ovec 3 tI (vs ++ [(cutOne at_ ((x.2.2.2.getD j tMake.dflt).2.2.2.getD k tI.dflt)).1])])
  (.need (vs.length = vs.length) <|
   .need (ms.length = ms.length) <|
   .need (0 = 0 ∧ 1 = ([((cutOne at_ (x.2.2.2.getD j tMake.dflt).1).1, ((x.2.2.2.getD j tMake.dflt).2.1, ((x.2.2.2.getD j tMake.dflt).2.2.1, vs)))]).length) <|
   .need ((ms.length + ([((cutOne at_ (x.2.2.2.getD j tMake.dflt).1).1, ((x.2.2.2.getD j tMake.dflt).2.1, ((x.2.2.2.getD j tMake.dflt).2.2.1, vs)))]).length) * 48 ≤ 140737488355328) <|
   .need (inR .i64 (((j : Nat) : Int) + 1)) <|
   .stop (lp (bodyOf Tryd.f49) 1) (.c (.ptr 0 0 0 0) :: J2 (.junk :: .c (.ptr 2 0 0 0) :: .c (.ptr 3 0 0 0) :: J4 (.c (.ptr 6 0 0 0) :: J16 (J8 (J4 (.c (.ro tMake x.2.2.2) :: .c (.int .i64 (x.2.2.2.length : Int)) :: .c (.int .i64 (((j : Nat) : Int) + 1)) :: J8 (bCl1 x j k))))))) [.cells 97 [.osl 1 1 at_.length, .bool f], .ovec 3 tI at_, .cells 27 [.int .i64 0, .int .i64 0, .nilsl, .nilsl], .cells 27 [.int .i64 x.1, .int .i64 x.2.1, .osl 4 2 ss.length, .osl 9 4 (ms ++ [((cutOne at_ (x.2.2.2.getD j tMake.dflt).1).1, ((x.2.2.2.getD j tMake.dflt).2.1, ((x.2.2.2.getD j tMake.dflt).2.2.1, vs)))]).length], .ovec 116 tVal ss, .dead, (bCl2 at_ x j vs), .dead, .vec 118 tMake ([((cutOne at_ (x.2.2.2.getD j tMake.dflt).1).1, ((x.2.2.2.getD j tMake.dflt).2.1, ((x.2.2.2.getD j tMake.dflt).2.2.1, vs)))]), .ovec 118 tMake (ms ++ [((cutOne at_ (x.2.2.2.getD j tMake.dflt).1).1, ((x.2.2.2.getD j tMake.dflt).2.1, ((x.2.2.2.getD j tMake.dflt).2.2.1, vs)))])])
theorem cexit_l2_R_ok (at_ : List Int) (fine : Bool) (x : EExit) (k : Nat) (j : Nat) (f : Bool) (ss : List EVal) (ms : List EMake) (vs : List Int) : aRound Tryd.prog oc21 Tryd.f49 cexit_lv 3000 (lp (bodyOf Tryd.f49) 2) (.c (.ptr 0 0 0 0) :: J2 (.junk :: .c (.ptr 2 0 0 0) :: .c (.ptr 3 0 0 0) :: J4 (.c (.ptr 6 0 0 0) :: J16 (J8 (J4 (.c (.ro tMake x.2.2.2) :: .c (.int .i64 (x.2.2.2.length : Int)) :: .c (.int .i64 ((j : Nat) : Int)) :: J8 (bCl1 x j k))))))) [.cells 97 [.osl 1 1 at_.length, .bool f], .ovec 3 tI at_, .cells 27 [.int .i64 0, .int .i64 0, .nilsl, .nilsl], (bCl6 x ss ms), .ovec 116 tVal ss, .ovec 118 tMake ms, (bCl2 at_ x j vs), .ovec 3 tI vs] = cexit_l2_R at_ fine x k j f ss ms vs := by kernel_rfl
theorem cexit_l2 (at_ : List Int) (fine : Bool) (x : EExit) (k : Nat) (j : Nat) (f : Bool) (ss : List EVal) (ms : List EMake) (vs : List Int) (hs : exitSm x) (hj : j < x.2.2.2.length ∧ ms.length ≤ j) (hb : vs.length ≤ k) (hn : ∀ (f' : Bool) (ms' : List EMake), ms'.length ≤ j + 1 → RunN 2 Tryd.prog 49 (finQ Tryd.prog 2 (.agg (Ty.enc tExit ((x.1, x.2.1, ss, ms' ++ (x.2.2.2.drop (j + 1)).map (cutMake at_))))) [.cells 97 [.osl 1 1 at_.length, .bool (f' && (x.2.2.2.drop (j + 1)).all (cutMakeOk at_))], .ovec 3 tI at_]) (lp (bodyOf Tryd.f49) 1) (.c (.ptr 0 0 0 0) :: J2 (.junk :: .c (.ptr 2 0 0 0) :: .c (.ptr 3 0 0 0) :: J32 (.junk :: .c (.ro tMake x.2.2.2) :: .c (.int .i64 (x.2.2.2.length : Int)) :: .c (.int .i64 (((j + 1) : Nat) : Int)) :: J32 (J4 ([]))))) [.cells 97 [.osl 1 1 at_.length, .bool f'], .ovec 3 tI at_, .cells 27 [.int .i64 0, .int .i64 0, .nilsl, .nilsl], .cells 27 [.int .i64 x.1, .int .i64 x.2.1, .osl 4 2 ss.length, .osl 5 4 ms'.length], .ovec 116 tVal ss, .ovec 118 tMake ms']) : RunN 2 Tryd.prog 49 (finQ Tryd.prog 2 (.agg (Ty.enc tExit ((x.1, x.2.1, ss, ms ++ ((cutOne at_ (x.2.2.2.getD j tMake.dflt).1).1, (x.2.2.2.getD j tMake.dflt).2.1, (x.2.2.2.getD j tMake.dflt).2.2.1, vs ++ ((x.2.2.2.getD j tMake.dflt).2.2.2.drop k).map (fun v => (cutOne at_ v).1)) :: (x.2.2.2.drop (j + 1)).map (cutMake at_))))) [.cells 97 [.osl 1 1 at_.length, .bool (f && (((x.2.2.2.getD j tMake.dflt).2.2.2.drop k).all (fun v => (cutOne at_ v).2) && (x.2.2.2.drop (j + 1)).all (cutMakeOk at_)))], .ovec 3 tI at_]) (lp (bodyOf Tryd.f49) 2) (.c (.ptr 0 0 0 0) :: J2 (.junk :: .c (.ptr 2 0 0 0) :: .c (.ptr 3 0 0 0) :: J4 (.c (.ptr 6 0 0 0) :: J16 (J8 (J4 (.c (.ro tMake x.2.2.2) :: .c (.int .i64 (x.2.2.2.length : Int)) :: .c (.int .i64 ((j : Nat) : Int)) :: J8 (bCl1 x j k))))))) [.cells 97 [.osl 1 1 at_.length, .bool f], .ovec 3 tI at_, .cells 27 [.int .i64 0, .int .i64 0, .nilsl, .nilsl], (bCl6 x ss ms), .ovec 116 tVal ss, .ovec 118 tMake ms, (bCl2 at_ x j vs), .ovec 3 tI vs] :=
  Run.roundA oc21 cexit_lv 3000 Tryd.func49 mixed (cexit_l2_R at_ fine x k j f ss ms vs) (cexit_l2_R_ok at_ fine x k j f ss ms vs) (by
    unfold cexit_l2_R
    refine g_iteD (fun h0 => ?_) (fun h0 => ?_)
    · refine g_need (by omega) ?_
      refine g_need (by omega) ?_
      refine g_callH (AFunH.frameB [0, 1] (one_fun at_ f ((x.2.2.2.getD j tMake.dflt).2.2.2.getD k tI.dflt)) rfl rfl rfl rfl rfl rfl rfl) ?_
      refine g_need (rfl) ?_
      refine g_need (⟨rfl, rfl⟩) ?_
      refine g_need (by have q := hs.2.2 _ (getD_mem (α := EMake) (Ty.dflt tMake) (by omega : j < x.2.2.2.length)); have q1 := hs.1; have q2 := hs.2.1; (try simp only [List.length_cons, List.length_nil]); first | omega | (rw [i64_iff]; omega)) ?_
      refine g_need (by have q := hs.2.2 _ (getD_mem (α := EMake) (Ty.dflt tMake) (by omega : j < x.2.2.2.length)); have q1 := hs.1; have q2 := hs.2.1; (try simp only [List.length_cons, List.length_nil]); first | omega | (rw [i64_iff]; omega)) ?_
      refine g_stop (RunN.keep [0, 1, 2, 3, 4, 5, 6, 9] (true :: F2 (false :: true :: true :: F4 (true :: F16 (F8 (F4 (true :: true :: true :: F8 (F4 (false :: true :: true :: true :: F16 (F4 ([])))))))))) (show ∀ k, k < 2 → ([0, 1, 2, 3, 4, 5, 6, 9] : List Nat)[k]? = some k by decide) (by decide) rfl rfl ?_)
      have := cexit_l2 at_ fine x (k + 1) j (f && (cutOne at_ ((x.2.2.2.getD j tMake.dflt).2.2.2.getD k tI.dflt)).2) ss ms (vs ++ [(cutOne at_ ((x.2.2.2.getD j tMake.dflt).2.2.2.getD k tI.dflt)).1]) hs hj (by simp; omega) hn; have e1 : vs ++ ((x.2.2.2.getD j tMake.dflt).2.2.2.drop k).map (fun v => (cutOne at_ v).1) = (vs ++ [(cutOne at_ ((x.2.2.2.getD j tMake.dflt).2.2.2.getD k tI.dflt)).1]) ++ ((x.2.2.2.getD j tMake.dflt).2.2.2.drop (k + 1)).map (fun v => (cutOne at_ v).1) := (by rw [dropCons (α := Int) (Ty.dflt tI) (by omega)]; simp); have e2 : (f && (((x.2.2.2.getD j tMake.dflt).2.2.2.drop k).all (fun v => (cutOne at_ v).2) && (x.2.2.2.drop (j + 1)).all (cutMakeOk at_))) = ((f && (cutOne at_ ((x.2.2.2.getD j tMake.dflt).2.2.2.getD k tI.dflt)).2) && (((x.2.2.2.getD j tMake.dflt).2.2.2.drop (k + 1)).all (fun v => (cutOne at_ v).2) && (x.2.2.2.drop (j + 1)).all (cutMakeOk at_))) := (by rw [dropCons (α := Int) (Ty.dflt tI) (by omega), List.all_cons]; simp only [Bool.and_assoc]); rw [e1, e2]; exact this
    · refine g_need (rfl) ?_
      refine g_need (rfl) ?_
      refine g_need (⟨rfl, rfl⟩) ?_
      refine g_need (by have q := hs.2.2 _ (getD_mem (α := EMake) (Ty.dflt tMake) (by omega : j < x.2.2.2.length)); have q1 := hs.1; have q2 := hs.2.1; (try simp only [List.length_cons, List.length_nil]); first | omega | (rw [i64_iff]; omega)) ?_
      refine g_need (by have q := hs.2.2 _ (getD_mem (α := EMake) (Ty.dflt tMake) (by omega : j < x.2.2.2.length)); have q1 := hs.1; have q2 := hs.2.1; (try simp only [List.length_cons, List.length_nil]); first | omega | (rw [i64_iff]; omega)) ?_
      refine g_stop (RunN.keep [0, 1, 2, 3, 4, 9] (true :: F2 (false :: true :: true :: F32 (false :: true :: true :: true :: F32 (F4 ([]))))) (show ∀ k, k < 2 → ([0, 1, 2, 3, 4, 9] : List Nat)[k]? = some k by decide) (by decide) rfl rfl ?_)
      have := hn f (ms ++ [((cutOne at_ (x.2.2.2.getD j tMake.dflt).1).1, (x.2.2.2.getD j tMake.dflt).2.1, (x.2.2.2.getD j tMake.dflt).2.2.1, vs)]) (by simp; omega); rw [show (x.2.2.2.getD j tMake.dflt).2.2.2.drop k = [] from List.drop_eq_nil_of_le (by omega), List.map_nil, List.append_nil, List.all_nil, Bool.true_and]; rw [List.append_assoc, List.singleton_append] at this; exact this
    )
  termination_by (x.2.2.2.getD j tMake.dflt).2.2.2.length - k
  decreasing_by all_goals omega
theorem cexit_l1 (at_ : List Int) (fine : Bool) (x : EExit) (j : Nat) (f : Bool) (ss : List EVal) (ms : List EMake) (hs : exitSm x) (hm : ms.length ≤ j) : RunN 2 Tryd.prog 49 (finQ Tryd.prog 2 (.agg (Ty.enc tExit ((x.1, x.2.1, ss, ms ++ (x.2.2.2.drop j).map (cutMake at_))))) [.cells 97 [.osl 1 1 at_.length, .bool (f && (x.2.2.2.drop j).all (cutMakeOk at_))], .ovec 3 tI at_]) (lp (bodyOf Tryd.f49) 1) (.c (.ptr 0 0 0 0) :: J2 (.junk :: .c (.ptr 2 0 0 0) :: .c (.ptr 3 0 0 0) :: J32 (.junk :: .c (.ro tMake x.2.2.2) :: .c (.int .i64 (x.2.2.2.length : Int)) :: .c (.int .i64 ((j : Nat) : Int)) :: J32 (J4 ([]))))) [.cells 97 [.osl 1 1 at_.length, .bool f], .ovec 3 tI at_, .cells 27 [.int .i64 0, .int .i64 0, .nilsl, .nilsl], (bCl6 x ss ms), .ovec 116 tVal ss, .ovec 118 tMake ms] :=
  Run.roundA oc21 cexit_lv 3000 Tryd.func49 mixed (cexit_l1_R at_ fine x j f ss ms) (cexit_l1_R_ok at_ fine x j f ss ms) (by
    unfold cexit_l1_R
    refine g_iteD (fun h0 => ?_) (fun h0 => ?_)
    · refine g_need (by omega) ?_
      refine g_need (by omega) ?_
      refine g_callH (AFunH.frameB [0, 1] (one_fun at_ f (x.2.2.2.getD j tMake.dflt).1) rfl rfl rfl rfl rfl rfl rfl) ?_
      refine g_stop (RunN.keep [0, 1, 2, 3, 4, 5, 7, 1007] (true :: F2 (false :: true :: true :: F4 (true :: F16 (F8 (F4 (true :: true :: true :: F8 (F4 (false :: true :: true :: true :: F16 (F4 ([])))))))))) (show ∀ k, k < 2 → ([0, 1, 2, 3, 4, 5, 7, 1007] : List Nat)[k]? = some k by decide) (by decide) rfl rfl ?_)
      refine RunN.less (env' := (.c (.ptr 0 0 0 0) :: J2 (.junk :: .c (.ptr 2 0 0 0) :: .c (.ptr 3 0 0 0) :: J4 (.c (.ptr 6 0 0 0) :: J16 (J8 (J4 (.c (.ro tMake x.2.2.2) :: .c (.int .i64 (x.2.2.2.length : Int)) :: .c (.int .i64 ((j : Nat) : Int)) :: J8 (J4 (.junk :: .c (.ro tI (x.2.2.2.getD j tMake.dflt).2.2.2) :: .c (.int .i64 ((x.2.2.2.getD j tMake.dflt).2.2.2.length : Int)) :: .c (.int .i64 ((0 : Nat) : Int)) :: J16 (J4 ([]))))))))))) (H' := [.cells 97 [.osl 1 1 at_.length, .bool (f && (cutOne at_ (x.2.2.2.getD j tMake.dflt).1).2)], .ovec 3 tI at_, .cells 27 [.int .i64 0, .int .i64 0, .nilsl, .nilsl], (bCl6 x ss ms), .ovec 116 tVal ss, .ovec 118 tMake ms, .cells 118 [.int .i64 (cutOne at_ (x.2.2.2.getD j tMake.dflt).1).1, .int .i64 (x.2.2.2.getD j tMake.dflt).2.1, .int .i64 (x.2.2.2.getD j tMake.dflt).2.2.1, .osl 7 1 0], .ovec 3 tI ([])]) (leAVs.same rfl) (⟨leB.refl _, leB.refl _, leB.refl _, leB.refl _, leB.refl _, leB.refl _, ⟨rfl, leC.refl _, leC.refl _, leC.refl _, rfl, trivial⟩, rfl, trivial⟩) ?_
      have ht := cexit_l2 at_ fine x 0 j (f && (cutOne at_ (x.2.2.2.getD j tMake.dflt).1).2) ss ms ([]) hs ⟨by omega, hm⟩ (by simp) (fun f' ms' hq => cexit_l1 at_ fine x (j + 1) f' ss ms' hs hq); have e1 : ms ++ (x.2.2.2.drop j).map (cutMake at_) = ms ++ ((cutOne at_ (x.2.2.2.getD j tMake.dflt).1).1, (x.2.2.2.getD j tMake.dflt).2.1, (x.2.2.2.getD j tMake.dflt).2.2.1, [] ++ ((x.2.2.2.getD j tMake.dflt).2.2.2.drop 0).map (fun v => (cutOne at_ v).1)) :: (x.2.2.2.drop (j + 1)).map (cutMake at_) := (by rw [dropCons (α := EMake) (Ty.dflt tMake) (by omega : j < x.2.2.2.length)]; rfl); have e2 : (f && (x.2.2.2.drop j).all (cutMakeOk at_)) = ((f && (cutOne at_ (x.2.2.2.getD j tMake.dflt).1).2) && (((x.2.2.2.getD j tMake.dflt).2.2.2.drop 0).all (fun v => (cutOne at_ v).2) && (x.2.2.2.drop (j + 1)).all (cutMakeOk at_))) := (by rw [dropCons (α := EMake) (Ty.dflt tMake) (by omega : j < x.2.2.2.length), List.all_cons]; simp only [cutMakeOk, Bool.and_assoc, List.drop_zero]); rw [e1, e2]; exact ht
    · refine g_fin ?_
      refine g_need (rfl) ?_
      refine g_need (rfl) ?_
      exact g_end [0, 1] (show ∀ k, k < 2 → ([0, 1] : List Nat)[k]? = some k by decide) (by decide) (⟨⟨rfl, (show (x.1 : Int) = (x.1, x.2.1, ss, ms ++ (x.2.2.2.drop j).map (cutMake at_)).1 from by rfl)⟩, ⟨rfl, (show (x.2.1 : Int) = (x.1, x.2.1, ss, ms ++ (x.2.2.2.drop j).map (cutMake at_)).2.1 from by rfl)⟩, ⟨rfl, (show (ss) = (x.1, x.2.1, ss, ms ++ (x.2.2.2.drop j).map (cutMake at_)).2.2.1 from by rfl)⟩, ⟨rfl, (show (ms) = (x.1, x.2.1, ss, ms ++ (x.2.2.2.drop j).map (cutMake at_)).2.2.2 from by rw [List.drop_eq_nil_of_le (by omega)]; simp)⟩, trivial⟩) ⟨⟨rfl, leC.refl _, (show (f : Bool) = (f && (x.2.2.2.drop j).all (cutMakeOk at_)) from by rw [List.drop_eq_nil_of_le (by omega)]; simp), trivial⟩, leB.refl _, trivial⟩
    )
  termination_by x.2.2.2.length - j
  decreasing_by all_goals omega
theorem cexit_l0 (at_ : List Int) (fine : Bool) (x : EExit) (i : Nat) (f : Bool) (ss : List EVal) (hs : exitSm x) (hm : ss.length ≤ i) : RunN 2 Tryd.prog 49 (finQ Tryd.prog 2 (.agg (Ty.enc tExit ((x.1, x.2.1, ss ++ (x.2.2.1.drop i).map (cutSet at_), x.2.2.2.map (cutMake at_))))) [.cells 97 [.osl 1 1 at_.length, .bool (f && ((x.2.2.1.drop i).all (cutSetOk at_) && x.2.2.2.all (cutMakeOk at_)))], .ovec 3 tI at_]) (lp (bodyOf Tryd.f49) 0) (.c (.ptr 0 0 0 0) :: J2 (.c (.ptr 2 0 0 0) :: .c (.ptr 3 0 0 0) :: .c (.ptr 4 0 0 0) :: J8 (J4 (.junk :: .c (.ro tVal x.2.2.1) :: .c (.int .i64 (x.2.2.1.length : Int)) :: .c (.int .i64 ((i : Nat) : Int)) :: J32 (J16 (J8 ([]))))))) [.cells 97 [.osl 1 1 at_.length, .bool f], .ovec 3 tI at_, .cells 27 (Ty.enc tExit x), .cells 27 [.int .i64 0, .int .i64 0, .nilsl, .nilsl], .cells 27 [.int .i64 x.1, .int .i64 x.2.1, .osl 5 2 ss.length, .nilsl], .ovec 116 tVal ss] :=
  Run.roundA oc21 cexit_lv 3000 Tryd.func49 mixed (cexit_l0_R at_ fine x i f ss) (cexit_l0_R_ok at_ fine x i f ss) (by
    unfold cexit_l0_R
    refine g_iteD (fun h0 => ?_) (fun h0 => ?_)
    · refine g_need (by omega) ?_
      refine g_need (by omega) ?_
      refine g_callH (AFunH.frameB [0, 1] (one_fun at_ f (x.2.2.1.getD i tVal.dflt).2) rfl rfl rfl rfl rfl rfl rfl) ?_
      refine g_need (rfl) ?_
      refine g_need (⟨rfl, rfl⟩) ?_
      refine g_need (by have q1 := hs.1; have q2 := hs.2.1; (try simp only [List.length_cons, List.length_nil]); first | omega | (rw [i64_iff]; omega)) ?_
      refine g_need (by have q1 := hs.1; have q2 := hs.2.1; (try simp only [List.length_cons, List.length_nil]); first | omega | (rw [i64_iff]; omega)) ?_
      refine g_stop (RunN.keep [0, 1, 2, 3, 4, 8] (true :: F2 (true :: true :: true :: F8 (F4 (false :: true :: true :: true :: F32 (F16 (F8 ([]))))))) (show ∀ k, k < 2 → ([0, 1, 2, 3, 4, 8] : List Nat)[k]? = some k by decide) (by decide) rfl rfl ?_)
      have ht := cexit_l0 at_ fine x (i + 1) (f && (cutOne at_ (x.2.2.1.getD i tVal.dflt).2).2) (ss ++ [((x.2.2.1.getD i tVal.dflt).1, (cutOne at_ (x.2.2.1.getD i tVal.dflt).2).1)]) hs (by simp; omega); have e1 : ss ++ (x.2.2.1.drop i).map (cutSet at_) = (ss ++ [cutSet at_ (x.2.2.1.getD i tVal.dflt)]) ++ (x.2.2.1.drop (i + 1)).map (cutSet at_) := (by rw [dropCons (α := EVal) (Ty.dflt tVal) (by omega)]; simp); have e2 : (f && ((x.2.2.1.drop i).all (cutSetOk at_) && x.2.2.2.all (cutMakeOk at_))) = ((f && (cutOne at_ (x.2.2.1.getD i tVal.dflt).2).2) && ((x.2.2.1.drop (i + 1)).all (cutSetOk at_) && x.2.2.2.all (cutMakeOk at_))) := (by rw [dropCons (α := EVal) (Ty.dflt tVal) (by omega), List.all_cons]; simp only [cutSetOk, Bool.and_assoc]); rw [e1, e2]; exact ht
    · refine g_stop (RunN.keep [0, 1, 3, 4, 5, 1005] (true :: F2 (false :: true :: true :: F32 (false :: true :: true :: true :: F32 (F4 ([]))))) (show ∀ k, k < 2 → ([0, 1, 3, 4, 5, 1005] : List Nat)[k]? = some k by decide) (by decide) rfl rfl ?_)
      refine RunN.less (env' := (.c (.ptr 0 0 0 0) :: J2 (.junk :: .c (.ptr 2 0 0 0) :: .c (.ptr 3 0 0 0) :: J32 (.junk :: .c (.ro tMake x.2.2.2) :: .c (.int .i64 (x.2.2.2.length : Int)) :: .c (.int .i64 ((0 : Nat) : Int)) :: J32 (J4 ([])))))) (H' := [.cells 97 [.osl 1 1 at_.length, .bool f], .ovec 3 tI at_, .cells 27 [.int .i64 0, .int .i64 0, .nilsl, .nilsl], .cells 27 [.int .i64 x.1, .int .i64 x.2.1, .osl 4 2 ss.length, .osl 5 4 0], .ovec 116 tVal ss, .ovec 118 tMake ([])]) (leAVs.same rfl) (⟨leB.refl _, leB.refl _, leB.refl _, ⟨rfl, leC.refl _, leC.refl _, leC.refl _, rfl, trivial⟩, leB.refl _, rfl, trivial⟩) ?_
      have ht := cexit_l1 at_ fine x 0 f ss ([]) hs (by simp); rw [List.drop_zero, List.nil_append] at ht; rw [show x.2.2.1.drop i = [] from List.drop_eq_nil_of_le (by omega), List.map_nil, List.append_nil, List.all_nil, Bool.true_and]; exact ht
    )
  termination_by x.2.2.1.length - i
  decreasing_by all_goals omega
theorem cexit_fun (at_ : List Int) (fine : Bool) (x : EExit) (hs : exitSm x) : AFunH Tryd.prog 49 [.c (.ptr 0 0 0 0), .agg (tExit.enc x)] [.cells 97 [.osl 1 1 at_.length, .bool fine], .ovec 3 tI at_] (.agg (Ty.enc tExit (cutExit at_ x))) [.cells 97 [.osl 1 1 at_.length, .bool (fine && cutExitOk at_ x)], .ovec 3 tI at_] (List.range 2) :=
  AFunH.ofL oc21 cexit_lv 3000 Tryd.func49 mixed rfl (by decide) (Nat.le_of_ble_eq_true rfl) rfl rfl (Nat.le_of_ble_eq_true rfl) _ (cexit_T_ok at_ fine x) fun hF => by
    unfold cexit_T
    refine g_stop (RunN.keep [0, 1, 2, 3, 4, 1005] (true :: F2 (true :: true :: true :: F8 (F4 (false :: true :: true :: true :: F32 (F16 (F8 ([]))))))) (show ∀ k, k < 2 → ([0, 1, 2, 3, 4, 1005] : List Nat)[k]? = some k by decide) (by decide) rfl rfl ?_)
    refine RunN.less (env' := (.c (.ptr 0 0 0 0) :: J2 (.c (.ptr 2 0 0 0) :: .c (.ptr 3 0 0 0) :: .c (.ptr 4 0 0 0) :: J8 (J4 (.junk :: .c (.ro tVal x.2.2.1) :: .c (.int .i64 (x.2.2.1.length : Int)) :: .c (.int .i64 ((0 : Nat) : Int)) :: J32 (J16 (J8 ([])))))))) (H' := [.cells 97 [.osl 1 1 at_.length, .bool fine], .ovec 3 tI at_, .cells 27 (Ty.enc tExit x), .cells 27 [.int .i64 0, .int .i64 0, .nilsl, .nilsl], .cells 27 [.int .i64 x.1, .int .i64 x.2.1, .osl 5 2 0, .nilsl], .ovec 116 tVal ([])]) (leAVs.same rfl) (⟨leB.refl _, leB.refl _, leB.refl _, leB.refl _, ⟨rfl, leC.refl _, leC.refl _, rfl, leC.refl _, trivial⟩, rfl, trivial⟩) ?_
    exact cexit_l0 at_ fine x 0 fine ([]) hs (by simp)

def stepV (at_ : List Int) (n k v : Int) : Int := if k < n then (cutOne at_ v).1 else v
def stepOk (at_ : List Int) (n k v : Int) : Bool := if k < n then (cutOne at_ v).2 else true
def cutAsks (op : Int) : Int := if (ofF op).2 = true then (ofF op).1.1 else 0
def cutIns (at_ : List Int) (x : EIns) : EIns := (x.1, stepV at_ (cutAsks x.1) 0 x.2.1, stepV at_ (cutAsks x.1) 1 x.2.2.1, stepV at_ (cutAsks x.1) 2 x.2.2.2.1, x.2.2.2.2)
def cutInsOk (at_ : List Int) (x : EIns) : Bool := stepOk at_ (cutAsks x.1) 0 x.2.1 && (stepOk at_ (cutAsks x.1) 1 x.2.2.1 && stepOk at_ (cutAsks x.1) 2 x.2.2.2.1)
noncomputable def oc22 : Orc where
  pure := fun f args => match f, args with
    | 43, [a0] => match dA tI a0 with
      | some x0 => some (.tup [.agg (Ty.enc tForm ((ofF x0).1)), .c (.bool ((ofF x0).2))])
      | _ => none
    | _, _ => none
  heap := fun f args H => match f, args with
    | 88, [.one (.c (.ptr b0 0 0 0)), a1] => match cellsAs 97 H[b0]? with
      | some [.osl b1 1 _, c0_1] => (match dA tI a1, dC .bool c0_1, ovecAs 3 tI H[b1]? with
        | some x1, some y0_1, some y1 => hres [b0, b1] H (.c (.int .i64 ((cutOne y1 x1).1))) [.cells 97 [.osl 1 1 y1.length, .bool (y0_1 && (cutOne y1 x1).2)], .ovec 3 tI y1]
        | _, _, _ => none)
      | _ => none
    | _, _ => none
def cins_lv : LV := ⟨(true :: F2 (true :: true :: F16 (F2 (true :: true :: true :: F8 (F4 ([])))))), []⟩
abbrev bCl5 : AB := .cells 46 [.int .i64 0, .int .i64 0, .int .i64 0, .int .i64 0, .int .i64 0, .int .i64 0, .int .i64 0, .int .i64 0]
noncomputable def cins_T (at_ : List Int) (fine : Bool) (x : EIns) : Tree :=
  .call 43 [.c (.int .i64 x.1)] false (.tup [.agg [.int .i64 (ofF x.1).1.1, .int .i64 (ofF x.1).1.2.1, .int .i64 (ofF x.1).1.2.2.1, .bool (ofF x.1).1.2.2.2.1, .bool (ofF x.1).1.2.2.2.2.1, .int .i64 (ofF x.1).1.2.2.2.2.2], .c (.bool (ofF x.1).2)]) <|
  .ite ((ofF x.1).2)
  (.need ((0 : Int) ≤ (ofF x.1).1.1 ∧ ((ofF x.1).1.1 : Int) ≤ ((3 : Nat) : Int)) <|
   .stop (lp (bodyOf Tryd.f48) 0) (.c (.ptr 0 0 0 0) :: J2 (.c (.ptr 2 0 0 0) :: .c (.ptr 3 0 0 0) :: J16 (J2 (.c (.pre 5 1 (Int.toNat (ofF x.1).1.1)) :: .c (.int .i64 (((Int.toNat (ofF x.1).1.1) : Nat) : Int)) :: .c (.int .i64 0) :: J8 (J4 ([])))))) [.cells 97 [.osl 1 1 at_.length, .bool fine], .ovec 3 tI at_, .cells 46 (Ty.enc tIns x), bCl5, .cells 88 [.int .i64 (ofF x.1).1.1, .int .i64 (ofF x.1).1.2.1, .int .i64 (ofF x.1).1.2.2.1, .bool (ofF x.1).1.2.2.2.1, .bool (ofF x.1).1.2.2.2.2.1, .int .i64 (ofF x.1).1.2.2.2.2.2], .cells 156 [.ptr 2 0 0 1, .ptr 2 0 0 2, .ptr 2 0 0 3]])
  (.ret (.agg (Ty.enc tIns x)) [.cells 97 [.osl 1 1 at_.length, .bool fine], .ovec 3 tI at_, .cells 46 (Ty.enc tIns x), .cells 46 (Ty.enc tIns x), .cells 88 [.int .i64 (ofF x.1).1.1, .int .i64 (ofF x.1).1.2.1, .int .i64 (ofF x.1).1.2.2.1, .bool (ofF x.1).1.2.2.2.1, .bool (ofF x.1).1.2.2.2.2.1, .int .i64 (ofF x.1).1.2.2.2.2.2], .cells 156 [.ptr 2 0 0 1, .ptr 2 0 0 2, .ptr 2 0 0 3]])
theorem cins_T_ok (at_ : List Int) (fine : Bool) (x : EIns) : aRun Tryd.prog oc22 Tryd.f48 cins_lv 3000 [.code (bodyOf Tryd.f48)] ([.c (.ptr 0 0 0 0), .agg (tIns.enc x)] ++ List.replicate (Func.ntmps Tryd.f48 - 2) .junk) [.cells 97 [.osl 1 1 at_.length, .bool fine], .ovec 3 tI at_] = cins_T at_ fine x := by kernel_rfl
abbrev bCl3 (x : EIns) (a0 : Int) (a1 : Int) (a2 : Int) : AB := .cells 46 [.int .i64 x.1, .int .i64 a0, .int .i64 a1, .int .i64 a2, .int .i64 x.2.2.2.2.1, .int .i64 x.2.2.2.2.2.1, .int .i64 x.2.2.2.2.2.2.1, .int .i64 x.2.2.2.2.2.2.2]
abbrev bCl4 (x : EIns) (a0 : Int) (a1 : Int) (a2 : Int) : List CV := [.int .i64 x.1, .int .i64 a0, .int .i64 a1, .int .i64 a2, .int .i64 x.2.2.2.2.1, .int .i64 x.2.2.2.2.2.1, .int .i64 x.2.2.2.2.2.2.1, .int .i64 x.2.2.2.2.2.2.2]
noncomputable def cins_i3_R (at_ : List Int) (fine : Bool) (x : EIns) (f : Bool) (a0 : Int) (a1 : Int) (a2 : Int) : Tree :=
  .ite (decide ((3 : Int) < (((Int.toNat (ofF x.1).1.1) : Nat) : Int)))
  (.need ((0 : Int) ≤ 3 ∧ (3 : Int) < (((Int.toNat (ofF x.1).1.1) : Nat) : Int)) <|
   .fail 10)
  (.ret (.agg (bCl4 x a0 a1 a2)) [.cells 97 [.osl 1 1 at_.length, .bool f], .ovec 3 tI at_, (bCl3 x a0 a1 a2), (bCl3 x a0 a1 a2), .cells 156 [.ptr 2 0 0 1, .ptr 2 0 0 2, .ptr 2 0 0 3]])
theorem cins_i3_R_ok (at_ : List Int) (fine : Bool) (x : EIns) (f : Bool) (a0 : Int) (a1 : Int) (a2 : Int) : aRound Tryd.prog oc22 Tryd.f48 cins_lv 3000 (lp (bodyOf Tryd.f48) 0) (.c (.ptr 0 0 0 0) :: J2 (.c (.ptr 2 0 0 0) :: .c (.ptr 3 0 0 0) :: J16 (J2 (.c (.pre 4 1 (Int.toNat (ofF x.1).1.1)) :: .c (.int .i64 (((Int.toNat (ofF x.1).1.1) : Nat) : Int)) :: .c (.int .i64 3) :: J8 (J4 ([])))))) [.cells 97 [.osl 1 1 at_.length, .bool f], .ovec 3 tI at_, (bCl3 x a0 a1 a2), bCl5, .cells 156 [.ptr 2 0 0 1, .ptr 2 0 0 2, .ptr 2 0 0 3]] = cins_i3_R at_ fine x f a0 a1 a2 := by kernel_rfl
noncomputable def cins_i2_R (at_ : List Int) (fine : Bool) (x : EIns) (f : Bool) (a0 : Int) (a1 : Int) (a2 : Int) : Tree :=
  .ite (decide ((2 : Int) < (((Int.toNat (ofF x.1).1.1) : Nat) : Int)))
  (.need ((0 : Int) ≤ 2 ∧ (2 : Int) < (((Int.toNat (ofF x.1).1.1) : Nat) : Int)) <|
   .callH 88 [.c (.ptr 0 0 0 0), .c (.int .i64 a2)] [.cells 97 [.osl 1 1 at_.length, .bool f], .ovec 3 tI at_, (bCl3 x a0 a1 a2), bCl5, .cells 156 [.ptr 2 0 0 1, .ptr 2 0 0 2, .ptr 2 0 0 3]] (.c (.int .i64 (cutOne at_ a2).1)) [.cells 97 [.osl 1 1 at_.length, .bool (f && (cutOne at_ a2).2)], .ovec 3 tI at_, (bCl3 x a0 a1 a2), bCl5, .cells 156 [.ptr 2 0 0 1, .ptr 2 0 0 2, .ptr 2 0 0 3]] [0, 1] <|
   .need (inR .i64 (2 + 1)) <|
   .stop (lp (bodyOf Tryd.f48) 0) (.c (.ptr 0 0 0 0) :: J2 (.c (.ptr 2 0 0 0) :: .c (.ptr 3 0 0 0) :: J16 (J2 (.c (.pre 4 1 (Int.toNat (ofF x.1).1.1)) :: .c (.int .i64 (((Int.toNat (ofF x.1).1.1) : Nat) : Int)) :: .c (.int .i64 (2 + 1)) :: J8 (J4 ([])))))) [.cells 97 [.osl 1 1 at_.length, .bool (f && (cutOne at_ a2).2)], .ovec 3 tI at_, .cells 46 [.int .i64 x.1, .int .i64 a0, .int .i64 a1, .int .i64 (cutOne at_ a2).1, .int .i64 x.2.2.2.2.1, .int .i64 x.2.2.2.2.2.1, .int .i64 x.2.2.2.2.2.2.1, .int .i64 x.2.2.2.2.2.2.2], bCl5, .cells 156 [.ptr 2 0 0 1, .ptr 2 0 0 2, .ptr 2 0 0 3]])
  (.ret (.agg (bCl4 x a0 a1 a2)) [.cells 97 [.osl 1 1 at_.length, .bool f], .ovec 3 tI at_, (bCl3 x a0 a1 a2), (bCl3 x a0 a1 a2), .cells 156 [.ptr 2 0 0 1, .ptr 2 0 0 2, .ptr 2 0 0 3]])
theorem cins_i2_R_ok (at_ : List Int) (fine : Bool) (x : EIns) (f : Bool) (a0 : Int) (a1 : Int) (a2 : Int) : aRound Tryd.prog oc22 Tryd.f48 cins_lv 3000 (lp (bodyOf Tryd.f48) 0) (.c (.ptr 0 0 0 0) :: J2 (.c (.ptr 2 0 0 0) :: .c (.ptr 3 0 0 0) :: J16 (J2 (.c (.pre 4 1 (Int.toNat (ofF x.1).1.1)) :: .c (.int .i64 (((Int.toNat (ofF x.1).1.1) : Nat) : Int)) :: .c (.int .i64 2) :: J8 (J4 ([])))))) [.cells 97 [.osl 1 1 at_.length, .bool f], .ovec 3 tI at_, (bCl3 x a0 a1 a2), bCl5, .cells 156 [.ptr 2 0 0 1, .ptr 2 0 0 2, .ptr 2 0 0 3]] = cins_i2_R at_ fine x f a0 a1 a2 := by kernel_rfl
noncomputable def cins_i1_R (at_ : List Int) (fine : Bool) (x : EIns) (f : Bool) (a0 : Int) (a1 : Int) (a2 : Int) : Tree :=
  .ite (decide ((1 : Int) < (((Int.toNat (ofF x.1).1.1) : Nat) : Int)))
  (.need ((0 : Int) ≤ 1 ∧ (1 : Int) < (((Int.toNat (ofF x.1).1.1) : Nat) : Int)) <|
   .callH 88 [.c (.ptr 0 0 0 0), .c (.int .i64 a1)] [.cells 97 [.osl 1 1 at_.length, .bool f], .ovec 3 tI at_, (bCl3 x a0 a1 a2), bCl5, .cells 156 [.ptr 2 0 0 1, .ptr 2 0 0 2, .ptr 2 0 0 3]] (.c (.int .i64 (cutOne at_ a1).1)) [.cells 97 [.osl 1 1 at_.length, .bool (f && (cutOne at_ a1).2)], .ovec 3 tI at_, (bCl3 x a0 a1 a2), bCl5, .cells 156 [.ptr 2 0 0 1, .ptr 2 0 0 2, .ptr 2 0 0 3]] [0, 1] <|
   .need (inR .i64 (1 + 1)) <|
   .stop (lp (bodyOf Tryd.f48) 0) (.c (.ptr 0 0 0 0) :: J2 (.c (.ptr 2 0 0 0) :: .c (.ptr 3 0 0 0) :: J16 (J2 (.c (.pre 4 1 (Int.toNat (ofF x.1).1.1)) :: .c (.int .i64 (((Int.toNat (ofF x.1).1.1) : Nat) : Int)) :: .c (.int .i64 (1 + 1)) :: J8 (J4 ([])))))) [.cells 97 [.osl 1 1 at_.length, .bool (f && (cutOne at_ a1).2)], .ovec 3 tI at_, .cells 46 [.int .i64 x.1, .int .i64 a0, .int .i64 (cutOne at_ a1).1, .int .i64 a2, .int .i64 x.2.2.2.2.1, .int .i64 x.2.2.2.2.2.1, .int .i64 x.2.2.2.2.2.2.1, .int .i64 x.2.2.2.2.2.2.2], bCl5, .cells 156 [.ptr 2 0 0 1, .ptr 2 0 0 2, .ptr 2 0 0 3]])
  (.ret (.agg (bCl4 x a0 a1 a2)) [.cells 97 [.osl 1 1 at_.length, .bool f], .ovec 3 tI at_, (bCl3 x a0 a1 a2), (bCl3 x a0 a1 a2), .cells 156 [.ptr 2 0 0 1, .ptr 2 0 0 2, .ptr 2 0 0 3]])
theorem cins_i1_R_ok (at_ : List Int) (fine : Bool) (x : EIns) (f : Bool) (a0 : Int) (a1 : Int) (a2 : Int) : aRound Tryd.prog oc22 Tryd.f48 cins_lv 3000 (lp (bodyOf Tryd.f48) 0) (.c (.ptr 0 0 0 0) :: J2 (.c (.ptr 2 0 0 0) :: .c (.ptr 3 0 0 0) :: J16 (J2 (.c (.pre 4 1 (Int.toNat (ofF x.1).1.1)) :: .c (.int .i64 (((Int.toNat (ofF x.1).1.1) : Nat) : Int)) :: .c (.int .i64 1) :: J8 (J4 ([])))))) [.cells 97 [.osl 1 1 at_.length, .bool f], .ovec 3 tI at_, (bCl3 x a0 a1 a2), bCl5, .cells 156 [.ptr 2 0 0 1, .ptr 2 0 0 2, .ptr 2 0 0 3]] = cins_i1_R at_ fine x f a0 a1 a2 := by kernel_rfl
noncomputable def cins_i0_R (at_ : List Int) (fine : Bool) (x : EIns) (f : Bool) (a0 : Int) (a1 : Int) (a2 : Int) : Tree :=
  .ite (decide ((0 : Int) < (((Int.toNat (ofF x.1).1.1) : Nat) : Int)))
  (.need ((0 : Int) ≤ 0 ∧ (0 : Int) < (((Int.toNat (ofF x.1).1.1) : Nat) : Int)) <|
   .callH 88 [.c (.ptr 0 0 0 0), .c (.int .i64 a0)] [.cells 97 [.osl 1 1 at_.length, .bool f], .ovec 3 tI at_, (bCl3 x a0 a1 a2), bCl5, .cells 156 [.ptr 2 0 0 1, .ptr 2 0 0 2, .ptr 2 0 0 3]] (.c (.int .i64 (cutOne at_ a0).1)) [.cells 97 [.osl 1 1 at_.length, .bool (f && (cutOne at_ a0).2)], .ovec 3 tI at_, (bCl3 x a0 a1 a2), bCl5, .cells 156 [.ptr 2 0 0 1, .ptr 2 0 0 2, .ptr 2 0 0 3]] [0, 1] <|
   .need (inR .i64 (0 + 1)) <|
   .stop (lp (bodyOf Tryd.f48) 0) (.c (.ptr 0 0 0 0) :: J2 (.c (.ptr 2 0 0 0) :: .c (.ptr 3 0 0 0) :: J16 (J2 (.c (.pre 4 1 (Int.toNat (ofF x.1).1.1)) :: .c (.int .i64 (((Int.toNat (ofF x.1).1.1) : Nat) : Int)) :: .c (.int .i64 (0 + 1)) :: J8 (J4 ([])))))) [.cells 97 [.osl 1 1 at_.length, .bool (f && (cutOne at_ a0).2)], .ovec 3 tI at_, .cells 46 [.int .i64 x.1, .int .i64 (cutOne at_ a0).1, .int .i64 a1, .int .i64 a2, .int .i64 x.2.2.2.2.1, .int .i64 x.2.2.2.2.2.1, .int .i64 x.2.2.2.2.2.2.1, .int .i64 x.2.2.2.2.2.2.2], bCl5, .cells 156 [.ptr 2 0 0 1, .ptr 2 0 0 2, .ptr 2 0 0 3]])
  (.ret (.agg (bCl4 x a0 a1 a2)) [.cells 97 [.osl 1 1 at_.length, .bool f], .ovec 3 tI at_, (bCl3 x a0 a1 a2), (bCl3 x a0 a1 a2), .cells 156 [.ptr 2 0 0 1, .ptr 2 0 0 2, .ptr 2 0 0 3]])
theorem cins_i0_R_ok (at_ : List Int) (fine : Bool) (x : EIns) (f : Bool) (a0 : Int) (a1 : Int) (a2 : Int) : aRound Tryd.prog oc22 Tryd.f48 cins_lv 3000 (lp (bodyOf Tryd.f48) 0) (.c (.ptr 0 0 0 0) :: J2 (.c (.ptr 2 0 0 0) :: .c (.ptr 3 0 0 0) :: J16 (J2 (.c (.pre 4 1 (Int.toNat (ofF x.1).1.1)) :: .c (.int .i64 (((Int.toNat (ofF x.1).1.1) : Nat) : Int)) :: .c (.int .i64 0) :: J8 (J4 ([])))))) [.cells 97 [.osl 1 1 at_.length, .bool f], .ovec 3 tI at_, (bCl3 x a0 a1 a2), bCl5, .cells 156 [.ptr 2 0 0 1, .ptr 2 0 0 2, .ptr 2 0 0 3]] = cins_i0_R at_ fine x f a0 a1 a2 := by kernel_rfl
theorem cins_i3 (at_ : List Int) (fine : Bool) (x : EIns) (f : Bool) (a0 : Int) (a1 : Int) (a2 : Int) (ha : 0 ≤ (ofF x.1).1.1 ∧ (ofF x.1).1.1 ≤ 3) : RunN 2 Tryd.prog 48 (finQ Tryd.prog 2 (.agg (Ty.enc tIns ((x.1, a0, a1, a2, x.2.2.2.2)))) [.cells 97 [.osl 1 1 at_.length, .bool f], .ovec 3 tI at_]) (lp (bodyOf Tryd.f48) 0) (.c (.ptr 0 0 0 0) :: J2 (.c (.ptr 2 0 0 0) :: .c (.ptr 3 0 0 0) :: J16 (J2 (.c (.pre 4 1 (Int.toNat (ofF x.1).1.1)) :: .c (.int .i64 (((Int.toNat (ofF x.1).1.1) : Nat) : Int)) :: .c (.int .i64 3) :: J8 (J4 ([])))))) [.cells 97 [.osl 1 1 at_.length, .bool f], .ovec 3 tI at_, (bCl3 x a0 a1 a2), bCl5, .cells 156 [.ptr 2 0 0 1, .ptr 2 0 0 2, .ptr 2 0 0 3]] :=
  Run.roundA oc22 cins_lv 3000 Tryd.func48 mixed (cins_i3_R at_ fine x f a0 a1 a2) (cins_i3_R_ok at_ fine x f a0 a1 a2) (by
    unfold cins_i3_R
    refine g_iteD (fun h0 => ?_) (fun h0 => ?_)
    · refine g_need (by omega) ?_
      exact (show False from by omega)
    · refine g_fin ?_
      exact g_end [0, 1] (show ∀ k, k < 2 → ([0, 1] : List Nat)[k]? = some k by decide) (by decide) (⟨⟨rfl, (show (x.1 : Int) = (x.1, a0, a1, a2, x.2.2.2.2).1 from by rfl)⟩, ⟨rfl, (show (a0 : Int) = (x.1, a0, a1, a2, x.2.2.2.2).2.1 from by rfl)⟩, ⟨rfl, (show (a1 : Int) = (x.1, a0, a1, a2, x.2.2.2.2).2.2.1 from by rfl)⟩, ⟨rfl, (show (a2 : Int) = (x.1, a0, a1, a2, x.2.2.2.2).2.2.2.1 from by rfl)⟩, ⟨rfl, (show (x.2.2.2.2.1 : Int) = (x.1, a0, a1, a2, x.2.2.2.2).2.2.2.2.1 from by rfl)⟩, ⟨rfl, (show (x.2.2.2.2.2.1 : Int) = (x.1, a0, a1, a2, x.2.2.2.2).2.2.2.2.2.1 from by rfl)⟩, ⟨rfl, (show (x.2.2.2.2.2.2.1 : Int) = (x.1, a0, a1, a2, x.2.2.2.2).2.2.2.2.2.2.1 from by rfl)⟩, ⟨rfl, (show (x.2.2.2.2.2.2.2 : Int) = (x.1, a0, a1, a2, x.2.2.2.2).2.2.2.2.2.2.2 from by rfl)⟩, trivial⟩) ⟨leB.refl _, leB.refl _, trivial⟩
    )
theorem cins_i2 (at_ : List Int) (fine : Bool) (x : EIns) (f : Bool) (a0 : Int) (a1 : Int) (a2 : Int) (ha : 0 ≤ (ofF x.1).1.1 ∧ (ofF x.1).1.1 ≤ 3) : RunN 2 Tryd.prog 48 (finQ Tryd.prog 2 (.agg (Ty.enc tIns ((x.1, a0, a1, stepV at_ (ofF x.1).1.1 2 a2, x.2.2.2.2)))) [.cells 97 [.osl 1 1 at_.length, .bool (f && stepOk at_ (ofF x.1).1.1 2 a2)], .ovec 3 tI at_]) (lp (bodyOf Tryd.f48) 0) (.c (.ptr 0 0 0 0) :: J2 (.c (.ptr 2 0 0 0) :: .c (.ptr 3 0 0 0) :: J16 (J2 (.c (.pre 4 1 (Int.toNat (ofF x.1).1.1)) :: .c (.int .i64 (((Int.toNat (ofF x.1).1.1) : Nat) : Int)) :: .c (.int .i64 2) :: J8 (J4 ([])))))) [.cells 97 [.osl 1 1 at_.length, .bool f], .ovec 3 tI at_, (bCl3 x a0 a1 a2), bCl5, .cells 156 [.ptr 2 0 0 1, .ptr 2 0 0 2, .ptr 2 0 0 3]] :=
  Run.roundA oc22 cins_lv 3000 Tryd.func48 mixed (cins_i2_R at_ fine x f a0 a1 a2) (cins_i2_R_ok at_ fine x f a0 a1 a2) (by
    unfold cins_i2_R
    refine g_iteD (fun h0 => ?_) (fun h0 => ?_)
    · refine g_need (by omega) ?_
      refine g_callH (AFunH.frameB [0, 1] (one_fun at_ f a2) rfl rfl rfl rfl rfl rfl rfl) ?_
      refine g_need (i64_iff.2 (by omega)) ?_
      refine g_stop (RunN.keep [0, 1, 2, 3, 4] (true :: F2 (true :: true :: F16 (F2 (true :: true :: true :: F8 (F4 ([])))))) (show ∀ k, k < 2 → ([0, 1, 2, 3, 4] : List Nat)[k]? = some k by decide) (by decide) rfl rfl ?_)
      have ht := cins_i3 at_ fine x (f && (cutOne at_ a2).2) a0 a1 (cutOne at_ a2).1 ha; have e1 : stepV at_ (ofF x.1).1.1 2 a2 = (cutOne at_ a2).1 := if_pos (by omega); have e2 : stepOk at_ (ofF x.1).1.1 2 a2 = (cutOne at_ a2).2 := if_pos (by omega); rw [e1, e2]; exact ht
    · refine g_fin ?_
      exact g_end [0, 1] (show ∀ k, k < 2 → ([0, 1] : List Nat)[k]? = some k by decide) (by decide) (⟨⟨rfl, (show (x.1 : Int) = (x.1, a0, a1, stepV at_ (ofF x.1).1.1 2 a2, x.2.2.2.2).1 from by rfl)⟩, ⟨rfl, (show (a0 : Int) = (x.1, a0, a1, stepV at_ (ofF x.1).1.1 2 a2, x.2.2.2.2).2.1 from by rfl)⟩, ⟨rfl, (show (a1 : Int) = (x.1, a0, a1, stepV at_ (ofF x.1).1.1 2 a2, x.2.2.2.2).2.2.1 from by rfl)⟩, ⟨rfl, (show (a2 : Int) = (x.1, a0, a1, stepV at_ (ofF x.1).1.1 2 a2, x.2.2.2.2).2.2.2.1 from by exact (if_neg (by omega)).symm)⟩, ⟨rfl, (show (x.2.2.2.2.1 : Int) = (x.1, a0, a1, stepV at_ (ofF x.1).1.1 2 a2, x.2.2.2.2).2.2.2.2.1 from by rfl)⟩, ⟨rfl, (show (x.2.2.2.2.2.1 : Int) = (x.1, a0, a1, stepV at_ (ofF x.1).1.1 2 a2, x.2.2.2.2).2.2.2.2.2.1 from by rfl)⟩, ⟨rfl, (show (x.2.2.2.2.2.2.1 : Int) = (x.1, a0, a1, stepV at_ (ofF x.1).1.1 2 a2, x.2.2.2.2).2.2.2.2.2.2.1 from by rfl)⟩, ⟨rfl, (show (x.2.2.2.2.2.2.2 : Int) = (x.1, a0, a1, stepV at_ (ofF x.1).1.1 2 a2, x.2.2.2.2).2.2.2.2.2.2.2 from by rfl)⟩, trivial⟩) ⟨⟨rfl, leC.refl _, (show (f : Bool) = (f && stepOk at_ (ofF x.1).1.1 2 a2) from by simp only [stepOk, if_neg (show ¬ (2 : Int) < (ofF x.1).1.1 by omega), Bool.and_true]), trivial⟩, leB.refl _, trivial⟩
    )
theorem cins_i1 (at_ : List Int) (fine : Bool) (x : EIns) (f : Bool) (a0 : Int) (a1 : Int) (a2 : Int) (ha : 0 ≤ (ofF x.1).1.1 ∧ (ofF x.1).1.1 ≤ 3) : RunN 2 Tryd.prog 48 (finQ Tryd.prog 2 (.agg (Ty.enc tIns ((x.1, a0, stepV at_ (ofF x.1).1.1 1 a1, stepV at_ (ofF x.1).1.1 2 a2, x.2.2.2.2)))) [.cells 97 [.osl 1 1 at_.length, .bool (f && (stepOk at_ (ofF x.1).1.1 1 a1 && stepOk at_ (ofF x.1).1.1 2 a2))], .ovec 3 tI at_]) (lp (bodyOf Tryd.f48) 0) (.c (.ptr 0 0 0 0) :: J2 (.c (.ptr 2 0 0 0) :: .c (.ptr 3 0 0 0) :: J16 (J2 (.c (.pre 4 1 (Int.toNat (ofF x.1).1.1)) :: .c (.int .i64 (((Int.toNat (ofF x.1).1.1) : Nat) : Int)) :: .c (.int .i64 1) :: J8 (J4 ([])))))) [.cells 97 [.osl 1 1 at_.length, .bool f], .ovec 3 tI at_, (bCl3 x a0 a1 a2), bCl5, .cells 156 [.ptr 2 0 0 1, .ptr 2 0 0 2, .ptr 2 0 0 3]] :=
  Run.roundA oc22 cins_lv 3000 Tryd.func48 mixed (cins_i1_R at_ fine x f a0 a1 a2) (cins_i1_R_ok at_ fine x f a0 a1 a2) (by
    unfold cins_i1_R
    refine g_iteD (fun h0 => ?_) (fun h0 => ?_)
    · refine g_need (by omega) ?_
      refine g_callH (AFunH.frameB [0, 1] (one_fun at_ f a1) rfl rfl rfl rfl rfl rfl rfl) ?_
      refine g_need (i64_iff.2 (by omega)) ?_
      refine g_stop (RunN.keep [0, 1, 2, 3, 4] (true :: F2 (true :: true :: F16 (F2 (true :: true :: true :: F8 (F4 ([])))))) (show ∀ k, k < 2 → ([0, 1, 2, 3, 4] : List Nat)[k]? = some k by decide) (by decide) rfl rfl ?_)
      have ht := cins_i2 at_ fine x (f && (cutOne at_ a1).2) a0 (cutOne at_ a1).1 a2 ha; have e1 : stepV at_ (ofF x.1).1.1 1 a1 = (cutOne at_ a1).1 := if_pos (by omega); have e2 : stepOk at_ (ofF x.1).1.1 1 a1 = (cutOne at_ a1).2 := if_pos (by omega); rw [e1, e2]; rw [← Bool.and_assoc]; exact ht
    · refine g_fin ?_
      exact g_end [0, 1] (show ∀ k, k < 2 → ([0, 1] : List Nat)[k]? = some k by decide) (by decide) (⟨⟨rfl, (show (x.1 : Int) = (x.1, a0, stepV at_ (ofF x.1).1.1 1 a1, stepV at_ (ofF x.1).1.1 2 a2, x.2.2.2.2).1 from by rfl)⟩, ⟨rfl, (show (a0 : Int) = (x.1, a0, stepV at_ (ofF x.1).1.1 1 a1, stepV at_ (ofF x.1).1.1 2 a2, x.2.2.2.2).2.1 from by rfl)⟩, ⟨rfl, (show (a1 : Int) = (x.1, a0, stepV at_ (ofF x.1).1.1 1 a1, stepV at_ (ofF x.1).1.1 2 a2, x.2.2.2.2).2.2.1 from by exact (if_neg (by omega)).symm)⟩, ⟨rfl, (show (a2 : Int) = (x.1, a0, stepV at_ (ofF x.1).1.1 1 a1, stepV at_ (ofF x.1).1.1 2 a2, x.2.2.2.2).2.2.2.1 from by exact (if_neg (by omega)).symm)⟩, ⟨rfl, (show (x.2.2.2.2.1 : Int) = (x.1, a0, stepV at_ (ofF x.1).1.1 1 a1, stepV at_ (ofF x.1).1.1 2 a2, x.2.2.2.2).2.2.2.2.1 from by rfl)⟩, ⟨rfl, (show (x.2.2.2.2.2.1 : Int) = (x.1, a0, stepV at_ (ofF x.1).1.1 1 a1, stepV at_ (ofF x.1).1.1 2 a2, x.2.2.2.2).2.2.2.2.2.1 from by rfl)⟩, ⟨rfl, (show (x.2.2.2.2.2.2.1 : Int) = (x.1, a0, stepV at_ (ofF x.1).1.1 1 a1, stepV at_ (ofF x.1).1.1 2 a2, x.2.2.2.2).2.2.2.2.2.2.1 from by rfl)⟩, ⟨rfl, (show (x.2.2.2.2.2.2.2 : Int) = (x.1, a0, stepV at_ (ofF x.1).1.1 1 a1, stepV at_ (ofF x.1).1.1 2 a2, x.2.2.2.2).2.2.2.2.2.2.2 from by rfl)⟩, trivial⟩) ⟨⟨rfl, leC.refl _, (show (f : Bool) = (f && (stepOk at_ (ofF x.1).1.1 1 a1 && stepOk at_ (ofF x.1).1.1 2 a2)) from by simp only [stepOk, if_neg (show ¬ (1 : Int) < (ofF x.1).1.1 by omega), if_neg (show ¬ (2 : Int) < (ofF x.1).1.1 by omega), Bool.and_true]), trivial⟩, leB.refl _, trivial⟩
    )
theorem cins_i0 (at_ : List Int) (fine : Bool) (x : EIns) (f : Bool) (a0 : Int) (a1 : Int) (a2 : Int) (ha : 0 ≤ (ofF x.1).1.1 ∧ (ofF x.1).1.1 ≤ 3) : RunN 2 Tryd.prog 48 (finQ Tryd.prog 2 (.agg (Ty.enc tIns ((x.1, stepV at_ (ofF x.1).1.1 0 a0, stepV at_ (ofF x.1).1.1 1 a1, stepV at_ (ofF x.1).1.1 2 a2, x.2.2.2.2)))) [.cells 97 [.osl 1 1 at_.length, .bool (f && (stepOk at_ (ofF x.1).1.1 0 a0 && (stepOk at_ (ofF x.1).1.1 1 a1 && stepOk at_ (ofF x.1).1.1 2 a2)))], .ovec 3 tI at_]) (lp (bodyOf Tryd.f48) 0) (.c (.ptr 0 0 0 0) :: J2 (.c (.ptr 2 0 0 0) :: .c (.ptr 3 0 0 0) :: J16 (J2 (.c (.pre 4 1 (Int.toNat (ofF x.1).1.1)) :: .c (.int .i64 (((Int.toNat (ofF x.1).1.1) : Nat) : Int)) :: .c (.int .i64 0) :: J8 (J4 ([])))))) [.cells 97 [.osl 1 1 at_.length, .bool f], .ovec 3 tI at_, (bCl3 x a0 a1 a2), bCl5, .cells 156 [.ptr 2 0 0 1, .ptr 2 0 0 2, .ptr 2 0 0 3]] :=
  Run.roundA oc22 cins_lv 3000 Tryd.func48 mixed (cins_i0_R at_ fine x f a0 a1 a2) (cins_i0_R_ok at_ fine x f a0 a1 a2) (by
    unfold cins_i0_R
    refine g_iteD (fun h0 => ?_) (fun h0 => ?_)
    · refine g_need (by omega) ?_
      refine g_callH (AFunH.frameB [0, 1] (one_fun at_ f a0) rfl rfl rfl rfl rfl rfl rfl) ?_
      refine g_need (i64_iff.2 (by omega)) ?_
      refine g_stop (RunN.keep [0, 1, 2, 3, 4] (true :: F2 (true :: true :: F16 (F2 (true :: true :: true :: F8 (F4 ([])))))) (show ∀ k, k < 2 → ([0, 1, 2, 3, 4] : List Nat)[k]? = some k by decide) (by decide) rfl rfl ?_)
      have ht := cins_i1 at_ fine x (f && (cutOne at_ a0).2) (cutOne at_ a0).1 a1 a2 ha; have e1 : stepV at_ (ofF x.1).1.1 0 a0 = (cutOne at_ a0).1 := if_pos (by omega); have e2 : stepOk at_ (ofF x.1).1.1 0 a0 = (cutOne at_ a0).2 := if_pos (by omega); rw [e1, e2]; rw [← Bool.and_assoc]; exact ht
    · refine g_fin ?_
      exact g_end [0, 1] (show ∀ k, k < 2 → ([0, 1] : List Nat)[k]? = some k by decide) (by decide) (⟨⟨rfl, (show (x.1 : Int) = (x.1, stepV at_ (ofF x.1).1.1 0 a0, stepV at_ (ofF x.1).1.1 1 a1, stepV at_ (ofF x.1).1.1 2 a2, x.2.2.2.2).1 from by rfl)⟩, ⟨rfl, (show (a0 : Int) = (x.1, stepV at_ (ofF x.1).1.1 0 a0, stepV at_ (ofF x.1).1.1 1 a1, stepV at_ (ofF x.1).1.1 2 a2, x.2.2.2.2).2.1 from by exact (if_neg (by omega)).symm)⟩, ⟨rfl, (show (a1 : Int) = (x.1, stepV at_ (ofF x.1).1.1 0 a0, stepV at_ (ofF x.1).1.1 1 a1, stepV at_ (ofF x.1).1.1 2 a2, x.2.2.2.2).2.2.1 from by exact (if_neg (by omega)).symm)⟩, ⟨rfl, (show (a2 : Int) = (x.1, stepV at_ (ofF x.1).1.1 0 a0, stepV at_ (ofF x.1).1.1 1 a1, stepV at_ (ofF x.1).1.1 2 a2, x.2.2.2.2).2.2.2.1 from by exact (if_neg (by omega)).symm)⟩, ⟨rfl, (show (x.2.2.2.2.1 : Int) = (x.1, stepV at_ (ofF x.1).1.1 0 a0, stepV at_ (ofF x.1).1.1 1 a1, stepV at_ (ofF x.1).1.1 2 a2, x.2.2.2.2).2.2.2.2.1 from by rfl)⟩, ⟨rfl, (show (x.2.2.2.2.2.1 : Int) = (x.1, stepV at_ (ofF x.1).1.1 0 a0, stepV at_ (ofF x.1).1.1 1 a1, stepV at_ (ofF x.1).1.1 2 a2, x.2.2.2.2).2.2.2.2.2.1 from by rfl)⟩, ⟨rfl, (show (x.2.2.2.2.2.2.1 : Int) = (x.1, stepV at_ (ofF x.1).1.1 0 a0, stepV at_ (ofF x.1).1.1 1 a1, stepV at_ (ofF x.1).1.1 2 a2, x.2.2.2.2).2.2.2.2.2.2.1 from by rfl)⟩, ⟨rfl, (show (x.2.2.2.2.2.2.2 : Int) = (x.1, stepV at_ (ofF x.1).1.1 0 a0, stepV at_ (ofF x.1).1.1 1 a1, stepV at_ (ofF x.1).1.1 2 a2, x.2.2.2.2).2.2.2.2.2.2.2 from by rfl)⟩, trivial⟩) ⟨⟨rfl, leC.refl _, (show (f : Bool) = (f && (stepOk at_ (ofF x.1).1.1 0 a0 && (stepOk at_ (ofF x.1).1.1 1 a1 && stepOk at_ (ofF x.1).1.1 2 a2))) from by simp only [stepOk, if_neg (show ¬ (0 : Int) < (ofF x.1).1.1 by omega), if_neg (show ¬ (1 : Int) < (ofF x.1).1.1 by omega), if_neg (show ¬ (2 : Int) < (ofF x.1).1.1 by omega), Bool.and_true]), trivial⟩, leB.refl _, trivial⟩
    )
theorem cins_fun (at_ : List Int) (fine : Bool) (x : EIns) : AFunH Tryd.prog 48 [.c (.ptr 0 0 0 0), .agg (tIns.enc x)] [.cells 97 [.osl 1 1 at_.length, .bool fine], .ovec 3 tI at_] (.agg (Ty.enc tIns (cutIns at_ x))) [.cells 97 [.osl 1 1 at_.length, .bool (fine && cutInsOk at_ x)], .ovec 3 tI at_] (List.range 2) :=
  AFunH.ofL oc22 cins_lv 3000 Tryd.func48 mixed rfl (by decide) (Nat.le_of_ble_eq_true rfl) rfl rfl (Nat.le_of_ble_eq_true rfl) _ (cins_T_ok at_ fine x) fun hF => by
    have ha := ofF_asks x.1
    unfold cins_T
    refine g_call (of__fun x.1) (fun h => nomatch h) ?_
    refine g_ite (fun h0 => ?_) (fun h0 => ?_)
    · refine g_need (by omega) ?_
      refine g_stop (RunN.keep [0, 1, 2, 3, 5] (true :: F2 (true :: true :: F16 (F2 (true :: true :: true :: F8 (F4 ([])))))) (show ∀ k, k < 2 → ([0, 1, 2, 3, 5] : List Nat)[k]? = some k by decide) (by decide) rfl rfl ?_)
      have ht := cins_i0 at_ fine x fine x.2.1 x.2.2.1 x.2.2.2.1 ha; have e : cutAsks x.1 = (ofF x.1).1.1 := if_pos h0; simp only [cutIns, cutInsOk, e]; exact ht
    · refine g_fin ?_
      exact g_end [0, 1] (show ∀ k, k < 2 → ([0, 1] : List Nat)[k]? = some k by decide) (by decide) (⟨⟨rfl, (show (x.1 : Int) = (cutIns at_ x).1 from by simp only [cutIns, cutInsOk, stepV, stepOk, cutAsks, h0, if_false, Bool.false_eq_true, Int.lt_irrefl, Bool.and_true] <;> first | done | rfl | simp)⟩, ⟨rfl, (show (x.2.1 : Int) = (cutIns at_ x).2.1 from by simp only [cutIns, cutInsOk, stepV, stepOk, cutAsks, h0, if_false, Bool.false_eq_true, Int.lt_irrefl, Bool.and_true] <;> first | done | rfl | simp)⟩, ⟨rfl, (show (x.2.2.1 : Int) = (cutIns at_ x).2.2.1 from by simp only [cutIns, cutInsOk, stepV, stepOk, cutAsks, h0, if_false, Bool.false_eq_true, Int.lt_irrefl, Bool.and_true] <;> first | done | rfl | simp)⟩, ⟨rfl, (show (x.2.2.2.1 : Int) = (cutIns at_ x).2.2.2.1 from by simp only [cutIns, cutInsOk, stepV, stepOk, cutAsks, h0, if_false, Bool.false_eq_true, Int.lt_irrefl, Bool.and_true] <;> first | done | rfl | simp)⟩, ⟨rfl, (show (x.2.2.2.2.1 : Int) = (cutIns at_ x).2.2.2.2.1 from by simp only [cutIns, cutInsOk, stepV, stepOk, cutAsks, h0, if_false, Bool.false_eq_true, Int.lt_irrefl, Bool.and_true] <;> first | done | rfl | simp)⟩, ⟨rfl, (show (x.2.2.2.2.2.1 : Int) = (cutIns at_ x).2.2.2.2.2.1 from by simp only [cutIns, cutInsOk, stepV, stepOk, cutAsks, h0, if_false, Bool.false_eq_true, Int.lt_irrefl, Bool.and_true] <;> first | done | rfl | simp)⟩, ⟨rfl, (show (x.2.2.2.2.2.2.1 : Int) = (cutIns at_ x).2.2.2.2.2.2.1 from by simp only [cutIns, cutInsOk, stepV, stepOk, cutAsks, h0, if_false, Bool.false_eq_true, Int.lt_irrefl, Bool.and_true] <;> first | done | rfl | simp)⟩, ⟨rfl, (show (x.2.2.2.2.2.2.2 : Int) = (cutIns at_ x).2.2.2.2.2.2.2 from by simp only [cutIns, cutInsOk, stepV, stepOk, cutAsks, h0, if_false, Bool.false_eq_true, Int.lt_irrefl, Bool.and_true] <;> first | done | rfl | simp)⟩, trivial⟩) ⟨⟨rfl, leC.refl _, (show (fine : Bool) = (fine && cutInsOk at_ x) from by simp only [cutIns, cutInsOk, stepV, stepOk, cutAsks, h0, if_false, Bool.false_eq_true, Int.lt_irrefl, Bool.and_true] <;> first | done | rfl | simp), trivial⟩, leB.refl _, trivial⟩

end Go.Proofs.YtefkifdhjabdiaaDoor
