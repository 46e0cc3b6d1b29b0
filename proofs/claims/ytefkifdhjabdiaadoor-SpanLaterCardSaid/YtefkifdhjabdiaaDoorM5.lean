/- What the laws' texts lean on, part 6: lemmas and the contracts of functions. No condition. -/
import Derived.Test.YtefkifdhjabdiaaDoorM3
import Derived.Test.YtefkifdhjabdiaaDoorM4
namespace Go.Proofs.YtefkifdhjabdiaaDoor
set_option maxHeartbeats 4000000
set_option linter.unusedVariables false
set_option linter.unusedSimpArgs false
set_option maxRecDepth 100000
def dP {α β : Type} (a : DecidableEq α) (b : DecidableEq β) : DecidableEq (α × β) := @instDecidableEqProd α β a b
def dI : DecidableEq Int := inferInstance
def dL {α : Type} (a : DecidableEq α) : DecidableEq (List α) := @instDecidableEqList α a
instance decVal : DecidableEq EVal := dP dI dI
instance decIns : DecidableEq EIns := dP dI (dP dI (dP dI (dP dI (dP dI (dP dI decVal)))))
instance decMake : DecidableEq EMake := dP dI (dP dI (dP dI (dL dI)))
instance decExit : DecidableEq EExit := dP dI (dP dI (dP (dL decVal) (dL decMake)))
instance decTrace : DecidableEq ETrace := dP dI (dP dI (dP dI (dP (dL decIns) (dP (dL decExit) (dP decExit decExit)))))
theorem drop_eqD {α : Type} (d : α) {a b : List α} {i : Nat} (hl : a.length = b.length) (hi : i < a.length) : (a.drop i = b.drop i) ↔ (a.getD i d = b.getD i d ∧ a.drop (i + 1) = b.drop (i + 1)) := by
  rw [dropCons (l := a) d hi, dropCons (l := b) d (by omega), List.cons.injEq]
theorem dec_and {p q r : Prop} [Decidable p] [Decidable q] [Decidable r] (h : p ↔ q ∧ r) : decide p = (decide q && decide r) := by
  rw [Bool.eq_iff_iff]; simp [h]
def restFm (n m : Int) : Int := if n.tmod m < 0 then n.tmod m + m else n.tmod m
theorem restFm_ok {n m : Int} (hm : 0 < m) : 0 ≤ restFm n m ∧ restFm n m < m := by
  unfold restFm
  have h1 := Int.tmod_lt_of_pos n hm
  have h2 : -m < n.tmod m := by
    have := Int.lt_tmod_of_pos n hm
    exact this
  split <;> omega
def rest_lv : LV := ⟨([]), []⟩
noncomputable def rest_T (n : Int) (m : Int) : Tree :=
  .need (m ≠ 0) <|
  .need (inR .i64 (Int.tmod n m)) <|
  .ite (decide ((Int.tmod n m) < 0))
  (.need (inR .i64 ((Int.tmod n m) + m)) <|
   .ret (.c (.int .i64 ((Int.tmod n m) + m))) [])
  (.ret (.c (.int .i64 (Int.tmod n m))) [])
theorem rest_T_ok (n : Int) (m : Int) : aRun Tryd.prog oc0 Tryd.f20 rest_lv 3000 [.code (bodyOf Tryd.f20)] ([.c (.int .i64 n), .c (.int .i64 m)] ++ List.replicate (Func.ntmps Tryd.f20 - 2) .junk) [] = rest_T n m := by kernel_rfl
theorem rest_fun (n : Int) (m : Int) (hm : 0 < m) : AFun Tryd.prog 20 [.c (.int .i64 n), .c (.int .i64 m)] (.c (.int .i64 (restFm n m))) :=
  AFun.of oc0 rest_lv 3000 Tryd.func20 mixed rfl (by decide) (Nat.le_of_ble_eq_true rfl) _ (rest_T_ok n m) fun hF => by
    have hb := hF.int.1
    have hb2 := hF.int.2.int.1
    rw [i64_iff] at hb hb2
    have t1 := Int.tmod_lt_of_pos n hm
    have t2 := Int.lt_tmod_of_pos n hm
    unfold rest_T
    refine g_need (by first | omega | (rw [i64_iff]; omega) | (rw [i64_iff]; constructor <;> omega)) ?_
    refine g_need (by first | omega | (rw [i64_iff]; omega) | (rw [i64_iff]; constructor <;> omega)) ?_
    refine g_iteD (fun h0 => ?_) (fun h0 => ?_)
    · refine g_need (by first | omega | (rw [i64_iff]; omega) | (rw [i64_iff]; constructor <;> omega)) ?_
      exact g_reti (by simp only [restFm, h0, if_true, if_false])
    · exact g_reti (by simp only [restFm, h0, if_true, if_false])

def eqIns_lv : LV := ⟨(false :: true :: F8 (F2 (true :: true :: true :: F8 (F2 (false :: []))))), []⟩
noncomputable def eqIns_T (a : List EIns) (b : List EIns) : Tree :=
  .ite ((!(decide ((a.length : Int) = (b.length : Int)))))
  (.ret (.c (.lit false)) [])
  (.stop (lp (bodyOf Tryd.f28) 0) (.junk :: .c (.ro tIns b) :: J8 (J2 (.c (.ro tIns a) :: .c (.int .i64 (a.length : Int)) :: .c (.int .i64 0) :: J8 (J2 (.junk :: []))))) [])
theorem eqIns_T_ok (a : List EIns) (b : List EIns) : aRun Tryd.prog oc0 Tryd.f28 eqIns_lv 3000 [.code (bodyOf Tryd.f28)] ([.c (.ro tIns a), .c (.ro tIns b)] ++ List.replicate (Func.ntmps Tryd.f28 - 2) .junk) [] = eqIns_T a b := by kernel_rfl
noncomputable def eqIns_l0_R (a : List EIns) (b : List EIns) (i : Nat) : Tree :=
  .ite (decide (((i : Nat) : Int) < (a.length : Int)))
  (.need ((0 : Int) ≤ ((i : Nat) : Int) ∧ (((i : Nat) : Int) : Int) < (a.length : Int)) <|
   .need (i < a.length) <|
   .need ((0 : Int) ≤ ((i : Nat) : Int) ∧ (((i : Nat) : Int) : Int) < (b.length : Int)) <|
   .need (i < b.length) <|
   .ite ((!(decide ((a.getD i tIns.dflt).1 = (b.getD i tIns.dflt).1) && (decide ((a.getD i tIns.dflt).2.1 = (b.getD i tIns.dflt).2.1) && (decide ((a.getD i tIns.dflt).2.2.1 = (b.getD i tIns.dflt).2.2.1) && (decide ((a.getD i tIns.dflt).2.2.2.1 = (b.getD i tIns.dflt).2.2.2.1) && (decide ((a.getD i tIns.dflt).2.2.2.2.1 = (b.getD i tIns.dflt).2.2.2.2.1) && (decide ((a.getD i tIns.dflt).2.2.2.2.2.1 = (b.getD i tIns.dflt).2.2.2.2.2.1) && ((decide ((a.getD i tIns.dflt).2.2.2.2.2.2.1 = (b.getD i tIns.dflt).2.2.2.2.2.2.1) && (decide ((a.getD i tIns.dflt).2.2.2.2.2.2.2 = (b.getD i tIns.dflt).2.2.2.2.2.2.2) && true)) && true)))))))))
   (.ret (.c (.lit false)) [.cells 46 [.int .i64 (a.getD i tIns.dflt).1, .int .i64 (a.getD i tIns.dflt).2.1, .int .i64 (a.getD i tIns.dflt).2.2.1, .int .i64 (a.getD i tIns.dflt).2.2.2.1, .int .i64 (a.getD i tIns.dflt).2.2.2.2.1, .int .i64 (a.getD i tIns.dflt).2.2.2.2.2.1, .int .i64 (a.getD i tIns.dflt).2.2.2.2.2.2.1, .int .i64 (a.getD i tIns.dflt).2.2.2.2.2.2.2]])
   (.need (inR .i64 (((i : Nat) : Int) + 1)) <|
    .stop (lp (bodyOf Tryd.f28) 0) (.junk :: .c (.ro tIns b) :: J8 (J2 (.c (.ro tIns a) :: .c (.int .i64 (a.length : Int)) :: .c (.int .i64 (((i : Nat) : Int) + 1)) :: J8 (J2 (.junk :: []))))) [.cells 46 [.int .i64 (a.getD i tIns.dflt).1, .int .i64 (a.getD i tIns.dflt).2.1, .int .i64 (a.getD i tIns.dflt).2.2.1, .int .i64 (a.getD i tIns.dflt).2.2.2.1, .int .i64 (a.getD i tIns.dflt).2.2.2.2.1, .int .i64 (a.getD i tIns.dflt).2.2.2.2.2.1, .int .i64 (a.getD i tIns.dflt).2.2.2.2.2.2.1, .int .i64 (a.getD i tIns.dflt).2.2.2.2.2.2.2]]))
  (.ret (.c (.lit true)) [])
theorem eqIns_l0_R_ok (a : List EIns) (b : List EIns) (i : Nat) : aRound Tryd.prog oc0 Tryd.f28 eqIns_lv 3000 (lp (bodyOf Tryd.f28) 0) (.junk :: .c (.ro tIns b) :: J8 (J2 (.c (.ro tIns a) :: .c (.int .i64 (a.length : Int)) :: .c (.int .i64 ((i : Nat) : Int)) :: J8 (J2 (.junk :: []))))) [] = eqIns_l0_R a b i := by kernel_rfl
theorem eqIns_l0 (a : List EIns) (b : List EIns) (i : Nat) (hl : a.length = b.length) (hb : a.length ≤ 9223372036854775807) : Run Tryd.prog 28 (retQ Tryd.prog (.c (.bool (decide (a.drop i = b.drop i))))) (lp (bodyOf Tryd.f28) 0) (.junk :: .c (.ro tIns b) :: J8 (J2 (.c (.ro tIns a) :: .c (.int .i64 (a.length : Int)) :: .c (.int .i64 ((i : Nat) : Int)) :: J8 (J2 (.junk :: []))))) [] :=
  Run.roundA oc0 eqIns_lv 3000 Tryd.func28 mixed (eqIns_l0_R a b i) (eqIns_l0_R_ok a b i) (by
    unfold eqIns_l0_R
    refine g_iteD (fun h0 => ?_) (fun h0 => ?_)
    · refine g_need (by omega) ?_
      refine g_need (by omega) ?_
      refine g_need (by omega) ?_
      refine g_need (by omega) ?_
      refine g_iteN (fun h1 => ?_) (fun h1 => ?_)
      · exact g_retl (by first | (rw [List.drop_eq_nil_of_le (by omega), List.drop_eq_nil_of_le (by omega)]; rfl) | (symm; rw [decide_eq_false_iff_not, drop_eqD (Ty.dflt tIns) hl (by omega)]; intro q; rw [q.1] at h1; simp at h1))
      · refine g_need (i64_iff.2 (by omega)) ?_
        refine g_stop (RunN.keep [] (false :: true :: F8 (F2 (true :: true :: true :: F8 (F2 (false :: []))))) n0 (by decide) rfl rfl ?_)
        have := eqIns_l0 a b (i + 1) hl hb; have e : decide (a.drop i = b.drop i) = decide (a.drop (i + 1) = b.drop (i + 1)) := (by rw [decide_eq_decide, drop_eqD (Ty.dflt tIns) hl (by omega)]; exact ⟨fun q => q.2, fun q => ⟨(by simp at h1; exact Prod.ext h1.1 (Prod.ext h1.2.1 (Prod.ext h1.2.2.1 (Prod.ext h1.2.2.2.1 (Prod.ext h1.2.2.2.2.1 (Prod.ext h1.2.2.2.2.2.1 (Prod.ext h1.2.2.2.2.2.2.1 h1.2.2.2.2.2.2.2))))))), q⟩⟩); rw [e]; exact this
    · exact g_retl (by first | (rw [List.drop_eq_nil_of_le (by omega), List.drop_eq_nil_of_le (by omega)]; rfl) | (symm; rw [decide_eq_false_iff_not, drop_eqD (Ty.dflt tIns) hl (by omega)]; intro q; rw [q.1] at h1; simp at h1))
    )
  termination_by a.length - i
  decreasing_by all_goals omega
theorem eqIns_fun (a : List EIns) (b : List EIns) : AFun Tryd.prog 28 [.c (.ro tIns a), .c (.ro tIns b)] (.c (.bool (decide (a = b)))) :=
  AFun.of oc0 eqIns_lv 3000 Tryd.func28 mixed rfl (by decide) (Nat.le_of_ble_eq_true rfl) _ (eqIns_T_ok a b) fun hF => by
    unfold eqIns_T
    refine g_iteND (fun h0 => ?_) (fun h0 => ?_)
    · exact g_retl (by symm; rw [decide_eq_false_iff_not]; intro q; exact h0 (by rw [q]))
    · refine g_stop (RunN.keep [] (false :: true :: F8 (F2 (true :: true :: true :: F8 (F2 (false :: []))))) n0 (by decide) rfl rfl ?_)
      have := eqIns_l0 a b 0 (by omega) hF.ro.1.1; exact this

def eqSet_lv : LV := ⟨(false :: true :: F8 (F2 (true :: true :: true :: F8 (F2 (false :: []))))), []⟩
noncomputable def eqSet_T (a : List EVal) (b : List EVal) : Tree :=
  .ite ((!(decide ((a.length : Int) = (b.length : Int)))))
  (.ret (.c (.lit false)) [])
  (.stop (lp (bodyOf Tryd.f59) 0) (.junk :: .c (.ro tVal b) :: J8 (J2 (.c (.ro tVal a) :: .c (.int .i64 (a.length : Int)) :: .c (.int .i64 0) :: J8 (J2 (.junk :: []))))) [])
theorem eqSet_T_ok (a : List EVal) (b : List EVal) : aRun Tryd.prog oc0 Tryd.f59 eqSet_lv 3000 [.code (bodyOf Tryd.f59)] ([.c (.ro tVal a), .c (.ro tVal b)] ++ List.replicate (Func.ntmps Tryd.f59 - 2) .junk) [] = eqSet_T a b := by kernel_rfl
noncomputable def eqSet_l0_R (a : List EVal) (b : List EVal) (i : Nat) : Tree :=
  .ite (decide (((i : Nat) : Int) < (a.length : Int)))
  (.need ((0 : Int) ≤ ((i : Nat) : Int) ∧ (((i : Nat) : Int) : Int) < (a.length : Int)) <|
   .need (i < a.length) <|
   .need ((0 : Int) ≤ ((i : Nat) : Int) ∧ (((i : Nat) : Int) : Int) < (b.length : Int)) <|
   .need (i < b.length) <|
   .ite ((!(decide ((a.getD i tVal.dflt).1 = (b.getD i tVal.dflt).1) && (decide ((a.getD i tVal.dflt).2 = (b.getD i tVal.dflt).2) && true))))
   (.ret (.c (.lit false)) [.cells 116 [.int .i64 (a.getD i tVal.dflt).1, .int .i64 (a.getD i tVal.dflt).2]])
   (.need (inR .i64 (((i : Nat) : Int) + 1)) <|
    .stop (lp (bodyOf Tryd.f59) 0) (.junk :: .c (.ro tVal b) :: J8 (J2 (.c (.ro tVal a) :: .c (.int .i64 (a.length : Int)) :: .c (.int .i64 (((i : Nat) : Int) + 1)) :: J8 (J2 (.junk :: []))))) [.cells 116 [.int .i64 (a.getD i tVal.dflt).1, .int .i64 (a.getD i tVal.dflt).2]]))
  (.ret (.c (.lit true)) [])
theorem eqSet_l0_R_ok (a : List EVal) (b : List EVal) (i : Nat) : aRound Tryd.prog oc0 Tryd.f59 eqSet_lv 3000 (lp (bodyOf Tryd.f59) 0) (.junk :: .c (.ro tVal b) :: J8 (J2 (.c (.ro tVal a) :: .c (.int .i64 (a.length : Int)) :: .c (.int .i64 ((i : Nat) : Int)) :: J8 (J2 (.junk :: []))))) [] = eqSet_l0_R a b i := by kernel_rfl
theorem eqSet_l0 (a : List EVal) (b : List EVal) (i : Nat) (hl : a.length = b.length) (hb : a.length ≤ 9223372036854775807) : Run Tryd.prog 59 (retQ Tryd.prog (.c (.bool (decide (a.drop i = b.drop i))))) (lp (bodyOf Tryd.f59) 0) (.junk :: .c (.ro tVal b) :: J8 (J2 (.c (.ro tVal a) :: .c (.int .i64 (a.length : Int)) :: .c (.int .i64 ((i : Nat) : Int)) :: J8 (J2 (.junk :: []))))) [] :=
  Run.roundA oc0 eqSet_lv 3000 Tryd.func59 mixed (eqSet_l0_R a b i) (eqSet_l0_R_ok a b i) (by
    unfold eqSet_l0_R
    refine g_iteD (fun h0 => ?_) (fun h0 => ?_)
    · refine g_need (by omega) ?_
      refine g_need (by omega) ?_
      refine g_need (by omega) ?_
      refine g_need (by omega) ?_
      refine g_iteN (fun h1 => ?_) (fun h1 => ?_)
      · exact g_retl (by first | (rw [List.drop_eq_nil_of_le (by omega), List.drop_eq_nil_of_le (by omega)]; rfl) | (symm; rw [decide_eq_false_iff_not, drop_eqD (Ty.dflt tVal) hl (by omega)]; intro q; rw [q.1] at h1; simp at h1))
      · refine g_need (i64_iff.2 (by omega)) ?_
        refine g_stop (RunN.keep [] (false :: true :: F8 (F2 (true :: true :: true :: F8 (F2 (false :: []))))) n0 (by decide) rfl rfl ?_)
        have := eqSet_l0 a b (i + 1) hl hb; have e : decide (a.drop i = b.drop i) = decide (a.drop (i + 1) = b.drop (i + 1)) := (by rw [decide_eq_decide, drop_eqD (Ty.dflt tVal) hl (by omega)]; exact ⟨fun q => q.2, fun q => ⟨(by simp at h1; exact Prod.ext h1.1 h1.2), q⟩⟩); rw [e]; exact this
    · exact g_retl (by first | (rw [List.drop_eq_nil_of_le (by omega), List.drop_eq_nil_of_le (by omega)]; rfl) | (symm; rw [decide_eq_false_iff_not, drop_eqD (Ty.dflt tVal) hl (by omega)]; intro q; rw [q.1] at h1; simp at h1))
    )
  termination_by a.length - i
  decreasing_by all_goals omega
theorem eqSet_fun (a : List EVal) (b : List EVal) : AFun Tryd.prog 59 [.c (.ro tVal a), .c (.ro tVal b)] (.c (.bool (decide (a = b)))) :=
  AFun.of oc0 eqSet_lv 3000 Tryd.func59 mixed rfl (by decide) (Nat.le_of_ble_eq_true rfl) _ (eqSet_T_ok a b) fun hF => by
    unfold eqSet_T
    refine g_iteND (fun h0 => ?_) (fun h0 => ?_)
    · exact g_retl (by symm; rw [decide_eq_false_iff_not]; intro q; exact h0 (by rw [q]))
    · refine g_stop (RunN.keep [] (false :: true :: F8 (F2 (true :: true :: true :: F8 (F2 (false :: []))))) n0 (by decide) rfl rfl ?_)
      have := eqSet_l0 a b 0 (by omega) hF.ro.1.1; exact this

noncomputable def oc30 : Orc where
  pure := fun f args => match f, args with
    | 41, [a0, a1] => match dA (.slice tI) a0, dA (.slice tI) a1 with
      | some x0, some x1 => some (.c (.bool (eqIF x0 x1)))
      | _, _ => none
    | _, _ => none
  heap := fun _ _ _ => none
def sameM_lv : LV := ⟨([]), []⟩
noncomputable def sameM_T (a : EMake) (b : EMake) : Tree :=
  .ite (decide (a.1 = b.1))
  (.ite (decide (a.2.1 = b.2.1))
   (.ite (decide (a.2.2.1 = b.2.2.1))
    (.call 41 [.c (.ro tI a.2.2.2), .c (.ro tI b.2.2.2)] false (.c (.bool (eqIF a.2.2.2 b.2.2.2))) <|
     .ret (.c (.bool (eqIF a.2.2.2 b.2.2.2))) [.cells 118 (Ty.enc tMake a), .cells 118 (Ty.enc tMake b)])
    (.ret (.c (.lit false)) [.cells 118 (Ty.enc tMake a), .cells 118 (Ty.enc tMake b)]))
   (.ret (.c (.lit false)) [.cells 118 (Ty.enc tMake a), .cells 118 (Ty.enc tMake b)]))
  (.ret (.c (.lit false)) [.cells 118 (Ty.enc tMake a), .cells 118 (Ty.enc tMake b)])
theorem sameM_T_ok (a : EMake) (b : EMake) : aRun Tryd.prog oc30 Tryd.f60 sameM_lv 3000 [.code (bodyOf Tryd.f60)] ([.agg (tMake.enc a), .agg (tMake.enc b)] ++ List.replicate (Func.ntmps Tryd.f60 - 2) .junk) [] = sameM_T a b := by kernel_rfl
theorem sameM_fun (a : EMake) (b : EMake) : AFun Tryd.prog 60 [.agg (tMake.enc a), .agg (tMake.enc b)] (.c (.bool (decide (a = b)))) :=
  AFun.of oc30 sameM_lv 3000 Tryd.func60 mixed rfl (by decide) (Nat.le_of_ble_eq_true rfl) _ (sameM_T_ok a b) fun hF => by
    unfold sameM_T
    refine g_iteD (fun h0 => ?_) (fun h0 => ?_)
    · refine g_iteD (fun h1 => ?_) (fun h1 => ?_)
      · refine g_iteD (fun h2 => ?_) (fun h2 => ?_)
        · refine g_call (eqI_fun a.2.2.2 b.2.2.2) (fun h => nomatch h) ?_
          exact g_retb (by obtain ⟨a0, a1, a2, a3⟩ := a; obtain ⟨b0, b1, b2, b3⟩ := b; simp_all [eqIF])
        · exact g_retl (by obtain ⟨a0, a1, a2, a3⟩ := a; obtain ⟨b0, b1, b2, b3⟩ := b; simp_all [eqIF])
      · exact g_retl (by obtain ⟨a0, a1, a2, a3⟩ := a; obtain ⟨b0, b1, b2, b3⟩ := b; simp_all [eqIF])
    · exact g_retl (by obtain ⟨a0, a1, a2, a3⟩ := a; obtain ⟨b0, b1, b2, b3⟩ := b; simp_all [eqIF])

noncomputable def oc31 : Orc where
  pure := fun f args => match f, args with
    | 59, [a0, a1] => match dA (.slice tVal) a0, dA (.slice tVal) a1 with
      | some x0, some x1 => some (.c (.bool (decide (x0 = x1))))
      | _, _ => none
    | 60, [a0, a1] => match dA tMake a0, dA tMake a1 with
      | some x0, some x1 => some (.c (.bool (decide (x0 = x1))))
      | _, _ => none
    | _, _ => none
  heap := fun _ _ _ => none
def sameX_lv : LV := ⟨(F2 (true :: true :: F32 (false :: true :: true :: F8 (F4 (F2 (false :: [])))))), []⟩
noncomputable def sameX_T (a : EExit) (b : EExit) : Tree :=
  .ite ((!(decide (a.1 = b.1))))
  (.ret (.c (.lit false)) [.cells 27 (Ty.enc tExit a), .cells 27 (Ty.enc tExit b)])
  (.ite ((!(decide (a.2.1 = b.2.1))))
   (.ret (.c (.lit false)) [.cells 27 (Ty.enc tExit a), .cells 27 (Ty.enc tExit b)])
   (.call 59 [.c (.ro tVal a.2.2.1), .c (.ro tVal b.2.2.1)] false (.c (.bool (decide (a.2.2.1 = b.2.2.1)))) <|
    .ite ((!(decide (a.2.2.1 = b.2.2.1))))
    (.ret (.c (.lit false)) [.cells 27 (Ty.enc tExit a), .cells 27 (Ty.enc tExit b)])
    (.ite ((!(decide ((a.2.2.2.length : Int) = (b.2.2.2.length : Int)))))
     (.ret (.c (.lit false)) [.cells 27 (Ty.enc tExit a), .cells 27 (Ty.enc tExit b)])
     (.stop (lp (bodyOf Tryd.f29) 0) (J2 (.c (.ptr 0 0 0 0) :: .c (.ptr 1 0 0 0) :: J32 (.junk :: .c (.int .i64 (a.2.2.2.length : Int)) :: .c (.int .i64 0) :: J8 (J4 (J2 (.junk :: [])))))) [.cells 27 (Ty.enc tExit a), .cells 27 (Ty.enc tExit b)]))))
theorem sameX_T_ok (a : EExit) (b : EExit) : aRun Tryd.prog oc31 Tryd.f29 sameX_lv 3000 [.code (bodyOf Tryd.f29)] ([.agg (tExit.enc a), .agg (tExit.enc b)] ++ List.replicate (Func.ntmps Tryd.f29 - 2) .junk) [] = sameX_T a b := by kernel_rfl
noncomputable def sameX_l0_R (a : EExit) (b : EExit) (i : Nat) : Tree :=
  .ite (decide (((i : Nat) : Int) < (a.2.2.2.length : Int)))
  (.need ((0 : Int) ≤ ((i : Nat) : Int) ∧ (((i : Nat) : Int) : Int) < (a.2.2.2.length : Int)) <|
   .need (i < a.2.2.2.length) <|
   .need ((0 : Int) ≤ ((i : Nat) : Int) ∧ (((i : Nat) : Int) : Int) < (b.2.2.2.length : Int)) <|
   .need (i < b.2.2.2.length) <|
   .call 60 [.agg [.int .i64 (a.2.2.2.getD i tMake.dflt).1, .int .i64 (a.2.2.2.getD i tMake.dflt).2.1, .int .i64 (a.2.2.2.getD i tMake.dflt).2.2.1, .ro tI (a.2.2.2.getD i tMake.dflt).2.2.2], .agg [.int .i64 (b.2.2.2.getD i tMake.dflt).1, .int .i64 (b.2.2.2.getD i tMake.dflt).2.1, .int .i64 (b.2.2.2.getD i tMake.dflt).2.2.1, .ro tI (b.2.2.2.getD i tMake.dflt).2.2.2]] false (.c (.bool (decide ((a.2.2.2.getD i tMake.dflt) = (b.2.2.2.getD i tMake.dflt))))) <|
   .ite ((!(decide ((a.2.2.2.getD i tMake.dflt) = (b.2.2.2.getD i tMake.dflt)))))
   (.ret (.c (.lit false)) [.cells 27 (Ty.enc tExit a), .cells 27 (Ty.enc tExit b)])
   (.need (inR .i64 (((i : Nat) : Int) + 1)) <|
    .stop (lp (bodyOf Tryd.f29) 0) (J2 (.c (.ptr 0 0 0 0) :: .c (.ptr 1 0 0 0) :: J32 (.junk :: .c (.int .i64 (a.2.2.2.length : Int)) :: .c (.int .i64 (((i : Nat) : Int) + 1)) :: J8 (J4 (J2 (.junk :: [])))))) [.cells 27 (Ty.enc tExit a), .cells 27 (Ty.enc tExit b)]))
  (.ret (.c (.lit true)) [.cells 27 (Ty.enc tExit a), .cells 27 (Ty.enc tExit b)])
theorem sameX_l0_R_ok (a : EExit) (b : EExit) (i : Nat) : aRound Tryd.prog oc31 Tryd.f29 sameX_lv 3000 (lp (bodyOf Tryd.f29) 0) (J2 (.c (.ptr 0 0 0 0) :: .c (.ptr 1 0 0 0) :: J32 (.junk :: .c (.int .i64 (a.2.2.2.length : Int)) :: .c (.int .i64 ((i : Nat) : Int)) :: J8 (J4 (J2 (.junk :: [])))))) [.cells 27 (Ty.enc tExit a), .cells 27 (Ty.enc tExit b)] = sameX_l0_R a b i := by kernel_rfl
theorem sameX_l0 (a : EExit) (b : EExit) (i : Nat) (hl : a.2.2.2.length = b.2.2.2.length) (hb : a.2.2.2.length ≤ 9223372036854775807) : Run Tryd.prog 29 (retQ Tryd.prog (.c (.bool (decide (a.2.2.2.drop i = b.2.2.2.drop i))))) (lp (bodyOf Tryd.f29) 0) (J2 (.c (.ptr 0 0 0 0) :: .c (.ptr 1 0 0 0) :: J32 (.junk :: .c (.int .i64 (a.2.2.2.length : Int)) :: .c (.int .i64 ((i : Nat) : Int)) :: J8 (J4 (J2 (.junk :: [])))))) [.cells 27 (Ty.enc tExit a), .cells 27 (Ty.enc tExit b)] :=
  Run.roundA oc31 sameX_lv 3000 Tryd.func29 mixed (sameX_l0_R a b i) (sameX_l0_R_ok a b i) (by
    unfold sameX_l0_R
    refine g_iteD (fun h0 => ?_) (fun h0 => ?_)
    · refine g_need (by omega) ?_
      refine g_need (by omega) ?_
      refine g_need (by omega) ?_
      refine g_need (by omega) ?_
      refine g_call (sameM_fun (a.2.2.2.getD i tMake.dflt) (b.2.2.2.getD i tMake.dflt)) (fun h => nomatch h) ?_
      refine g_iteND (fun h1 => ?_) (fun h1 => ?_)
      · exact g_retl (by first | (rw [List.drop_eq_nil_of_le (by omega), List.drop_eq_nil_of_le (by omega)]; rfl) | (symm; rw [decide_eq_false_iff_not, drop_eqD (Ty.dflt tMake) hl (by omega)]; intro q; rw [q.1] at h1; simp at h1))
      · refine g_need (i64_iff.2 (by omega)) ?_
        refine g_stop (RunN.keep [0, 1] (F2 (true :: true :: F32 (false :: true :: true :: F8 (F4 (F2 (false :: [])))))) n0 (by decide) rfl rfl ?_)
        have := sameX_l0 a b (i + 1) hl hb; have e : decide (a.2.2.2.drop i = b.2.2.2.drop i) = decide (a.2.2.2.drop (i + 1) = b.2.2.2.drop (i + 1)) := (by rw [decide_eq_decide, drop_eqD (Ty.dflt tMake) hl (by omega)]; exact ⟨fun q => q.2, fun q => ⟨(by first | exact h1 | exact of_decide_eq_true h1), q⟩⟩); rw [e]; exact this
    · exact g_retl (by first | (rw [List.drop_eq_nil_of_le (by omega), List.drop_eq_nil_of_le (by omega)]; rfl) | (symm; rw [decide_eq_false_iff_not, drop_eqD (Ty.dflt tMake) hl (by omega)]; intro q; rw [q.1] at h1; simp at h1))
    )
  termination_by a.2.2.2.length - i
  decreasing_by all_goals omega
theorem sameX_fun (a : EExit) (b : EExit) : AFun Tryd.prog 29 [.agg (tExit.enc a), .agg (tExit.enc b)] (.c (.bool (decide (a = b)))) :=
  AFun.of oc31 sameX_lv 3000 Tryd.func29 mixed rfl (by decide) (Nat.le_of_ble_eq_true rfl) _ (sameX_T_ok a b) fun hF => by
    have hb := hF.agg.1.2.2.2.1
    unfold sameX_T
    refine g_iteND (fun h0 => ?_) (fun h0 => ?_)
    · exact g_retl (by symm; rw [decide_eq_false_iff_not]; rintro rfl; simp_all)
    · refine g_iteND (fun h1 => ?_) (fun h1 => ?_)
      · exact g_retl (by symm; rw [decide_eq_false_iff_not]; rintro rfl; simp_all)
      · refine g_call (eqSet_fun a.2.2.1 b.2.2.1) (fun h => nomatch h) ?_
        refine g_iteND (fun h2 => ?_) (fun h2 => ?_)
        · exact g_retl (by symm; rw [decide_eq_false_iff_not]; rintro rfl; simp_all)
        · refine g_iteND (fun h3 => ?_) (fun h3 => ?_)
          · exact g_retl (by symm; rw [decide_eq_false_iff_not]; rintro rfl; simp_all)
          · refine g_stop (RunN.keep [0, 1] (F2 (true :: true :: F32 (false :: true :: true :: F8 (F4 (F2 (false :: [])))))) n0 (by decide) rfl rfl ?_)
            have := sameX_l0 a b 0 (by omega) hb; rw [List.drop_zero, List.drop_zero] at this; have e : decide (a = b) = decide (a.2.2.2 = b.2.2.2) := (by rw [decide_eq_decide]; exact ⟨fun q => by rw [q], fun q => Prod.ext (by assumption) (Prod.ext (by assumption) (Prod.ext (by assumption) q))⟩); rw [e]; exact this

noncomputable def oc32 : Orc where
  pure := fun f args => match f, args with
    | 28, [a0, a1] => match dA (.slice tIns) a0, dA (.slice tIns) a1 with
      | some x0, some x1 => some (.c (.bool (decide (x0 = x1))))
      | _, _ => none
    | 29, [a0, a1] => match dA tExit a0, dA tExit a1 with
      | some x0, some x1 => some (.c (.bool (decide (x0 = x1))))
      | _, _ => none
    | _, _ => none
  heap := fun _ _ _ => none
def sameT_lv : LV := ⟨(F2 (true :: true :: F32 (F16 (F8 (true :: true :: F8 (F4 (F2 (false :: [])))))))), [3]⟩
noncomputable def sameT_T (a : ETrace) (b : ETrace) : Tree :=
  .ite ((!(decide (a.1 = b.1))))
  (.ret (.c (.lit false)) [.cells 29 (Ty.enc tTrace a), .cells 29 (Ty.enc tTrace b)])
  (.ite ((!(decide (a.2.1 = b.2.1))))
   (.ret (.c (.lit false)) [.cells 29 (Ty.enc tTrace a), .cells 29 (Ty.enc tTrace b)])
   (.ite ((!(decide (a.2.2.1 = b.2.2.1))))
    (.ret (.c (.lit false)) [.cells 29 (Ty.enc tTrace a), .cells 29 (Ty.enc tTrace b)])
    (.call 28 [.c (.ro tIns a.2.2.2.1), .c (.ro tIns b.2.2.2.1)] false (.c (.bool (decide (a.2.2.2.1 = b.2.2.2.1)))) <|
     .ite ((!(decide (a.2.2.2.1 = b.2.2.2.1))))
     (.ret (.c (.lit false)) [.cells 29 (Ty.enc tTrace a), .cells 29 (Ty.enc tTrace b)])
     (.ite ((!(decide ((a.2.2.2.2.1.length : Int) = (b.2.2.2.2.1.length : Int)))))
      (.ret (.c (.lit false)) [.cells 29 (Ty.enc tTrace a), .cells 29 (Ty.enc tTrace b)])
      (.call 29 [.agg [.int .i64 a.2.2.2.2.2.1.1, .int .i64 a.2.2.2.2.2.1.2.1, .ro tVal a.2.2.2.2.2.1.2.2.1, .ro tMake a.2.2.2.2.2.1.2.2.2], .agg [.int .i64 b.2.2.2.2.2.1.1, .int .i64 b.2.2.2.2.2.1.2.1, .ro tVal b.2.2.2.2.2.1.2.2.1, .ro tMake b.2.2.2.2.2.1.2.2.2]] false (.c (.bool (decide (a.2.2.2.2.2.1 = b.2.2.2.2.2.1)))) <|
       .ite ((!(decide (a.2.2.2.2.2.1 = b.2.2.2.2.2.1))))
       (.ret (.c (.lit false)) [.cells 29 (Ty.enc tTrace a), .cells 29 (Ty.enc tTrace b)])
       (.call 29 [.agg [.int .i64 a.2.2.2.2.2.2.1, .int .i64 a.2.2.2.2.2.2.2.1, .ro tVal a.2.2.2.2.2.2.2.2.1, .ro tMake a.2.2.2.2.2.2.2.2.2], .agg [.int .i64 b.2.2.2.2.2.2.1, .int .i64 b.2.2.2.2.2.2.2.1, .ro tVal b.2.2.2.2.2.2.2.2.1, .ro tMake b.2.2.2.2.2.2.2.2.2]] false (.c (.bool (decide (a.2.2.2.2.2.2 = b.2.2.2.2.2.2)))) <|
        .ite ((!(decide (a.2.2.2.2.2.2 = b.2.2.2.2.2.2))))
        (.ret (.c (.lit false)) [.cells 29 (Ty.enc tTrace a), .cells 29 (Ty.enc tTrace b)])
        (.stop (rg (bodyOf Tryd.f16) 3) (J2 (.c (.ptr 0 0 0 0) :: .c (.ptr 1 0 0 0) :: J32 (J32 (J8 (.junk :: []))))) [.cells 29 (Ty.enc tTrace a), .cells 29 (Ty.enc tTrace b)])))))))
theorem sameT_T_ok (a : ETrace) (b : ETrace) : aRun Tryd.prog oc32 Tryd.f16 sameT_lv 3000 [.code (bodyOf Tryd.f16)] ([.agg (tTrace.enc a), .agg (tTrace.enc b)] ++ List.replicate (Func.ntmps Tryd.f16 - 2) .junk) [] = sameT_T a b := by kernel_rfl
noncomputable def sameT_r3_R (a : ETrace) (b : ETrace) : Tree :=
  .stop (lp (bodyOf Tryd.f16) 0) (J2 (.c (.ptr 0 0 0 0) :: .c (.ptr 1 0 0 0) :: J32 (J16 (J8 (.c (.int .i64 (a.2.2.2.2.1.length : Int)) :: .c (.int .i64 0) :: J8 (J4 (J2 (.junk :: [])))))))) [.cells 29 (Ty.enc tTrace a), .cells 29 (Ty.enc tTrace b)]
theorem sameT_r3_R_ok (a : ETrace) (b : ETrace) : aRound Tryd.prog oc32 Tryd.f16 sameT_lv 3000 (rg (bodyOf Tryd.f16) 3) (J2 (.c (.ptr 0 0 0 0) :: .c (.ptr 1 0 0 0) :: J32 (J32 (J8 (.junk :: []))))) [.cells 29 (Ty.enc tTrace a), .cells 29 (Ty.enc tTrace b)] = sameT_r3_R a b := by kernel_rfl
noncomputable def sameT_l0_R (a : ETrace) (b : ETrace) (i : Nat) : Tree :=
  .ite (decide (((i : Nat) : Int) < (a.2.2.2.2.1.length : Int)))
  (.need ((0 : Int) ≤ ((i : Nat) : Int) ∧ (((i : Nat) : Int) : Int) < (a.2.2.2.2.1.length : Int)) <|
   .need (i < a.2.2.2.2.1.length) <|
   .need ((0 : Int) ≤ ((i : Nat) : Int) ∧ (((i : Nat) : Int) : Int) < (b.2.2.2.2.1.length : Int)) <|
   .need (i < b.2.2.2.2.1.length) <|
   .call 29 [.agg [.int .i64 (a.2.2.2.2.1.getD i tExit.dflt).1, .int .i64 (a.2.2.2.2.1.getD i tExit.dflt).2.1, .ro tVal (a.2.2.2.2.1.getD i tExit.dflt).2.2.1, .ro tMake (a.2.2.2.2.1.getD i tExit.dflt).2.2.2], .agg [.int .i64 (b.2.2.2.2.1.getD i tExit.dflt).1, .int .i64 (b.2.2.2.2.1.getD i tExit.dflt).2.1, .ro tVal (b.2.2.2.2.1.getD i tExit.dflt).2.2.1, .ro tMake (b.2.2.2.2.1.getD i tExit.dflt).2.2.2]] false (.c (.bool (decide ((a.2.2.2.2.1.getD i tExit.dflt) = (b.2.2.2.2.1.getD i tExit.dflt))))) <|
   .ite ((!(decide ((a.2.2.2.2.1.getD i tExit.dflt) = (b.2.2.2.2.1.getD i tExit.dflt)))))
   (.ret (.c (.lit false)) [.cells 29 (Ty.enc tTrace a), .cells 29 (Ty.enc tTrace b)])
   (.need (inR .i64 (((i : Nat) : Int) + 1)) <|
    .stop (lp (bodyOf Tryd.f16) 0) (J2 (.c (.ptr 0 0 0 0) :: .c (.ptr 1 0 0 0) :: J32 (J16 (J8 (.c (.int .i64 (a.2.2.2.2.1.length : Int)) :: .c (.int .i64 (((i : Nat) : Int) + 1)) :: J8 (J4 (J2 (.junk :: [])))))))) [.cells 29 (Ty.enc tTrace a), .cells 29 (Ty.enc tTrace b)]))
  (.ret (.c (.lit true)) [.cells 29 (Ty.enc tTrace a), .cells 29 (Ty.enc tTrace b)])
theorem sameT_l0_R_ok (a : ETrace) (b : ETrace) (i : Nat) : aRound Tryd.prog oc32 Tryd.f16 sameT_lv 3000 (lp (bodyOf Tryd.f16) 0) (J2 (.c (.ptr 0 0 0 0) :: .c (.ptr 1 0 0 0) :: J32 (J16 (J8 (.c (.int .i64 (a.2.2.2.2.1.length : Int)) :: .c (.int .i64 ((i : Nat) : Int)) :: J8 (J4 (J2 (.junk :: [])))))))) [.cells 29 (Ty.enc tTrace a), .cells 29 (Ty.enc tTrace b)] = sameT_l0_R a b i := by kernel_rfl
theorem sameT_l0 (a : ETrace) (b : ETrace) (i : Nat) (hl : a.2.2.2.2.1.length = b.2.2.2.2.1.length) (hb : a.2.2.2.2.1.length ≤ 9223372036854775807) : Run Tryd.prog 16 (retQ Tryd.prog (.c (.bool (decide (a.2.2.2.2.1.drop i = b.2.2.2.2.1.drop i))))) (lp (bodyOf Tryd.f16) 0) (J2 (.c (.ptr 0 0 0 0) :: .c (.ptr 1 0 0 0) :: J32 (J16 (J8 (.c (.int .i64 (a.2.2.2.2.1.length : Int)) :: .c (.int .i64 ((i : Nat) : Int)) :: J8 (J4 (J2 (.junk :: [])))))))) [.cells 29 (Ty.enc tTrace a), .cells 29 (Ty.enc tTrace b)] :=
  Run.roundA oc32 sameT_lv 3000 Tryd.func16 mixed (sameT_l0_R a b i) (sameT_l0_R_ok a b i) (by
    unfold sameT_l0_R
    refine g_iteD (fun h0 => ?_) (fun h0 => ?_)
    · refine g_need (by omega) ?_
      refine g_need (by omega) ?_
      refine g_need (by omega) ?_
      refine g_need (by omega) ?_
      refine g_call (sameX_fun (a.2.2.2.2.1.getD i tExit.dflt) (b.2.2.2.2.1.getD i tExit.dflt)) (fun h => nomatch h) ?_
      refine g_iteND (fun h1 => ?_) (fun h1 => ?_)
      · exact g_retl (by first | (rw [List.drop_eq_nil_of_le (by omega), List.drop_eq_nil_of_le (by omega)]; rfl) | (symm; rw [decide_eq_false_iff_not, drop_eqD (Ty.dflt tExit) hl (by omega)]; intro q; rw [q.1] at h1; simp at h1))
      · refine g_need (i64_iff.2 (by omega)) ?_
        refine g_stop (RunN.keep [0, 1] (F2 (true :: true :: F32 (F16 (F8 (true :: true :: F8 (F4 (F2 (false :: [])))))))) n0 (by decide) rfl rfl ?_)
        have := sameT_l0 a b (i + 1) hl hb; have e : decide (a.2.2.2.2.1.drop i = b.2.2.2.2.1.drop i) = decide (a.2.2.2.2.1.drop (i + 1) = b.2.2.2.2.1.drop (i + 1)) := (by rw [decide_eq_decide, drop_eqD (Ty.dflt tExit) hl (by omega)]; exact ⟨fun q => q.2, fun q => ⟨(by first | exact h1 | exact of_decide_eq_true h1), q⟩⟩); rw [e]; exact this
    · exact g_retl (by first | (rw [List.drop_eq_nil_of_le (by omega), List.drop_eq_nil_of_le (by omega)]; rfl) | (symm; rw [decide_eq_false_iff_not, drop_eqD (Ty.dflt tExit) hl (by omega)]; intro q; rw [q.1] at h1; simp at h1))
    )
  termination_by a.2.2.2.2.1.length - i
  decreasing_by all_goals omega
theorem sameT_r3 (a : ETrace) (b : ETrace) (hl : a.2.2.2.2.1.length = b.2.2.2.2.1.length) (hb : a.2.2.2.2.1.length ≤ 9223372036854775807) : Run Tryd.prog 16 (retQ Tryd.prog (.c (.bool (decide (a.2.2.2.2.1 = b.2.2.2.2.1))))) (rg (bodyOf Tryd.f16) 3) (J2 (.c (.ptr 0 0 0 0) :: .c (.ptr 1 0 0 0) :: J32 (J32 (J8 (.junk :: []))))) [.cells 29 (Ty.enc tTrace a), .cells 29 (Ty.enc tTrace b)] :=
  Run.roundA oc32 sameT_lv 3000 Tryd.func16 mixed (sameT_r3_R a b) (sameT_r3_R_ok a b) (by
    unfold sameT_r3_R
    refine g_stop (RunN.keep [0, 1] (F2 (true :: true :: F32 (F16 (F8 (true :: true :: F8 (F4 (F2 (false :: [])))))))) n0 (by decide) rfl rfl ?_)
    have := sameT_l0 a b 0 hl hb; rw [List.drop_zero, List.drop_zero] at this; exact this
    )
theorem sameT_fun (a : ETrace) (b : ETrace) : AFun Tryd.prog 16 [.agg (tTrace.enc a), .agg (tTrace.enc b)] (.c (.bool (decide (a = b)))) :=
  AFun.of oc32 sameT_lv 3000 Tryd.func16 mixed rfl (by decide) (Nat.le_of_ble_eq_true rfl) _ (sameT_T_ok a b) fun hF => by
    have hb := hF.agg.1.2.2.2.2.1.1
    unfold sameT_T
    refine g_iteND (fun h0 => ?_) (fun h0 => ?_)
    · exact g_retl (by symm; rw [decide_eq_false_iff_not]; rintro rfl; simp_all)
    · refine g_iteND (fun h1 => ?_) (fun h1 => ?_)
      · exact g_retl (by symm; rw [decide_eq_false_iff_not]; rintro rfl; simp_all)
      · refine g_iteND (fun h2 => ?_) (fun h2 => ?_)
        · exact g_retl (by symm; rw [decide_eq_false_iff_not]; rintro rfl; simp_all)
        · refine g_call (eqIns_fun a.2.2.2.1 b.2.2.2.1) (fun h => nomatch h) ?_
          refine g_iteND (fun h3 => ?_) (fun h3 => ?_)
          · exact g_retl (by symm; rw [decide_eq_false_iff_not]; rintro rfl; simp_all)
          · refine g_iteND (fun h4 => ?_) (fun h4 => ?_)
            · exact g_retl (by symm; rw [decide_eq_false_iff_not]; rintro rfl; simp_all)
            · refine g_call (sameX_fun a.2.2.2.2.2.1 b.2.2.2.2.2.1) (fun h => nomatch h) ?_
              refine g_iteND (fun h5 => ?_) (fun h5 => ?_)
              · exact g_retl (by symm; rw [decide_eq_false_iff_not]; rintro rfl; simp_all)
              · refine g_call (sameX_fun a.2.2.2.2.2.2 b.2.2.2.2.2.2) (fun h => nomatch h) ?_
                refine g_iteND (fun h6 => ?_) (fun h6 => ?_)
                · exact g_retl (by symm; rw [decide_eq_false_iff_not]; rintro rfl; simp_all)
                · refine g_stop (RunN.keep [0, 1] (F2 (true :: true :: F32 (F32 (F8 (false :: []))))) n0 (by decide) rfl rfl ?_)
                  have := sameT_r3 a b (by omega) hb; have e : decide (a = b) = decide (a.2.2.2.2.1 = b.2.2.2.2.1) := (by rw [decide_eq_decide]; exact ⟨fun q => by rw [q], fun q => Prod.ext (by assumption) (Prod.ext (by assumption) (Prod.ext (by assumption) (Prod.ext (by assumption) (Prod.ext q (Prod.ext (by assumption) (by assumption))))))⟩); rw [e]; exact this

end Go.Proofs.YtefkifdhjabdiaaDoor
namespace Go.Proofs.YtefkifdhjabdiaaDoor
set_option maxHeartbeats 4000000
set_option linter.unusedVariables false
set_option linter.unusedSimpArgs false
set_option maxRecDepth 100000
def ofSp (t : ETrace) (v a : Int) : EVal := if v < 0 then (0, 0) else if a ≤ v then (0, 0) else if (t.2.2.2.1.length : Int) < a then (0, 0) else if tellF (insV t v).1 = false then (0, 0) else spanF t v a
theorem ofSp_eq {t : ETrace} (hd : DomC t) {v a : Int} (h0 : ¬ v < 0) (h1 : ¬ a ≤ v) (h2 : ¬ (t.2.2.2.1.length : Int) < a) (h3 : tellF (insV t v).1 = true) : ofSp t v a = (spanM t (Int.toNat a + 1) v a (0, fun _ => none)).1 := by
  rw [ofSp, if_neg h0, if_neg h1, if_neg h2, if_neg (by rw [h3]; decide), (spanM_ok hd.toDomT (Int.toNat a + 1) v a (0, fun _ => none) (by omega) (by omega) (by omega) (by omega) (kept_nil t)).1]
theorem ofSp_no {t : ETrace} {v a : Int} (h0 : ¬ v < 0) (h1 : ¬ a ≤ v) (h2 : ¬ (t.2.2.2.1.length : Int) < a) (h3 : tellF (insV t v).1 = false) : ofSp t v a = (0, 0) := by
  rw [ofSp, if_neg h0, if_neg h1, if_neg h2, if_pos h3]
theorem ofSp_later {t : ETrace} (hd : DomC t) {v a b : Int} (h0 : 0 ≤ v) (h1 : v < a) (h2 : a ≤ b) (h3 : b ≤ (t.2.2.2.1.length : Int)) : (ofSp t v a).1 ≤ (ofSp t v b).1 ∧ (ofSp t v b).1 ≤ (ofSp t v b).2 ∧ (ofSp t v b).2 ≤ (ofSp t v a).2 := by
  have e : ∀ x, v < x → x ≤ (t.2.2.2.1.length : Int) → ofSp t v x = if tellF (insV t v).1 = false then (0, 0) else spanF t v x := fun x q0 q1 => by
    unfold ofSp
    rw [if_neg (show ¬ v < 0 by omega), if_neg (show ¬ x ≤ v by omega), if_neg (show ¬ (t.2.2.2.1.length : Int) < x by omega)]
  rw [e a h1 (by omega), e b (by omega) h3]
  by_cases ht : tellF (insV t v).1 = false
  · rw [if_pos ht, if_pos ht]; simp
  · rw [if_neg ht, if_neg ht]
    have q := spanF_later hd h0 h1 h2 h3
    have r := spanF_in hd h0 (Int.lt_of_lt_of_le h1 h2) h3
    exact ⟨q.1, r.2.1, q.2⟩
noncomputable def oc108 : Orc where
  pure := fun f args => match f, args with
    | 19, [a0] => match dA tI a0 with
      | some x0 => some (.c (.bool (tellF x0)))
      | _ => none
    | 61, [a0] => match dA tTrace a0 with
      | some x0 => some (.c (.bool (true)))
      | _ => none
    | _, _ => none
  heap := fun f args H => match f, args with
    | 62, [.one (.c (.ptr b0 0 0 0)), a1, a2] => match cellsAs 128 H[b0]? with
      | some [c0_0_0, c0_0_1, c0_0_2, c0_0_3, c0_0_4, c0_0_5, c0_0_6, c0_0_7, c0_0_8, c0_0_9, c0_0_10, c0_0_11, c0_0_12, .map b1] => (match dA tI a1, dA tI a2, dCs tTrace [c0_0_0, c0_0_1, c0_0_2, c0_0_3, c0_0_4, c0_0_5, c0_0_6, c0_0_7, c0_0_8, c0_0_9, c0_0_10, c0_0_11, c0_0_12], mapAs 164 tVal tVal H[b1]? with
        | some x1, some x2, some y0_0, some (n1, y1) => hres [b0, b1] H (.agg (Ty.enc tVal ((spanM y0_0 (Int.toNat x2 + 1) x1 x2 (n1, y1)).1))) [.cells 128 [.int .i64 y0_0.1, .int .i64 y0_0.2.1, .int .i64 y0_0.2.2.1, .ro tIns y0_0.2.2.2.1, .ro tExit y0_0.2.2.2.2.1, .int .i64 y0_0.2.2.2.2.2.1.1, .int .i64 y0_0.2.2.2.2.2.1.2.1, .ro tVal y0_0.2.2.2.2.2.1.2.2.1, .ro tMake y0_0.2.2.2.2.2.1.2.2.2, .int .i64 y0_0.2.2.2.2.2.2.1, .int .i64 y0_0.2.2.2.2.2.2.2.1, .ro tVal y0_0.2.2.2.2.2.2.2.2.1, .ro tMake y0_0.2.2.2.2.2.2.2.2.2, .map 1], .map 164 tVal tVal (spanM y0_0 (Int.toNat x2 + 1) x1 x2 (n1, y1)).2.1 (spanM y0_0 (Int.toNat x2 + 1) x1 x2 (n1, y1)).2.2]
        | _, _, _, _ => none)
      | _ => none
    | _, _ => none
def spof_lv : LV := ⟨([]), []⟩
noncomputable def spof_T (t : ETrace) (v : Int) (a : Int) : Tree :=
  .ite (decide (v < 0))
  (.ret (.tup [.c (.int .i64 0), .c (.int .i64 0)]) [.cells 29 (Ty.enc tTrace t)])
  (.ite (decide (a ≤ v))
   (.ret (.tup [.c (.int .i64 0), .c (.int .i64 0)]) [.cells 29 (Ty.enc tTrace t)])
   (.ite (decide ((t.2.2.2.1.length : Int) < a))
    (.ret (.tup [.c (.int .i64 0), .c (.int .i64 0)]) [.cells 29 (Ty.enc tTrace t)])
    (.ite (decide ((300 : Int) < (t.2.2.2.1.length : Int)))
     (.ret (.tup [.c (.int .i64 0), .c (.int .i64 0)]) [.cells 29 (Ty.enc tTrace t)])
     (.call 61 [.agg (Ty.enc tTrace t)] false (.c (.bool true)) <|
      .ite ((!true))
      (.ret (.tup [.c (.int .i64 0), .c (.int .i64 0)]) [.cells 29 (Ty.enc tTrace t)])
      (.need ((0 : Int) ≤ v ∧ (v : Int) < (t.2.2.2.1.length : Int)) <|
       .need ((Int.toNat v) < t.2.2.2.1.length) <|
       .call 19 [.c (.int .i64 (t.2.2.2.1.getD (Int.toNat v) tIns.dflt).1)] false (.c (.bool (tellF (t.2.2.2.1.getD (Int.toNat v) tIns.dflt).1))) <|
       .ite ((!(tellF (t.2.2.2.1.getD (Int.toNat v) tIns.dflt).1)))
       (.ret (.tup [.c (.int .i64 0), .c (.int .i64 0)]) [.cells 29 (Ty.enc tTrace t)])
       (.need (Tryd.prog = Tryd.prog) <|
        .callH 62 [.c (.ptr 2 0 0 0), .c (.int .i64 v), .c (.int .i64 a)] [.cells 29 (Ty.enc tTrace t), .map 164 tVal tVal 0 (fun _ => none), .cells 128 (Ty.enc tTrace t ++ [.map 1])] (.agg [.int .i64 (spanM t (Int.toNat a + 1) v a (0, (fun _ => none))).1.1, .int .i64 (spanM t (Int.toNat a + 1) v a (0, (fun _ => none))).1.2]) [.cells 29 (Ty.enc tTrace t), .map 164 tVal tVal (spanM t (Int.toNat a + 1) v a (0, (fun _ => none))).2.1 (spanM t (Int.toNat a + 1) v a (0, (fun _ => none))).2.2, .cells 128 (Ty.enc tTrace t ++ [.map 1])] [2, 1] <|
        .ret (.tup [.c (.int .i64 (spanM t (Int.toNat a + 1) v a (0, (fun _ => none))).1.1), .c (.int .i64 (spanM t (Int.toNat a + 1) v a (0, (fun _ => none))).1.2)]) [.cells 29 (Ty.enc tTrace t), .map 164 tVal tVal (spanM t (Int.toNat a + 1) v a (0, (fun _ => none))).2.1 (spanM t (Int.toNat a + 1) v a (0, (fun _ => none))).2.2, .cells 128 (Ty.enc tTrace t ++ [.map 1]), .cells 130 [.int .i64 (spanM t (Int.toNat a + 1) v a (0, (fun _ => none))).1.1, .int .i64 (spanM t (Int.toNat a + 1) v a (0, (fun _ => none))).1.2]]))))))
theorem spof_T_ok (t : ETrace) (v : Int) (a : Int) : aRun Tryd.prog oc108 Tryd.f30 spof_lv 3000 [.code (bodyOf Tryd.f30)] ([.agg (tTrace.enc t), .c (.int .i64 v), .c (.int .i64 a)] ++ List.replicate (Func.ntmps Tryd.f30 - 3) .junk) [] = spof_T t v a := by kernel_rfl
theorem spof_fun (t : ETrace) (v : Int) (a : Int) {p : EProg} (hc : CheckOk p t) : AFun Tryd.prog 30 [.agg (tTrace.enc t), .c (.int .i64 v), .c (.int .i64 a)] (.tup [.c (.int .i64 ((ofSp t v a).1)), .c (.int .i64 ((ofSp t v a).2))]) :=
  AFun.of oc108 spof_lv 3000 Tryd.func30 mixed rfl (by decide) (Nat.le_of_ble_eq_true rfl) _ (spof_T_ok t v a) fun hF => by
    have hd := dom_of hc
    have hL := hc.n
    unfold spof_T
    refine g_iteD (fun h0 => ?_) (fun h0 => ?_)
    · first | rw [ofSp_eq (t := t) (v := v) (a := a) hd h0 h1 h2 h5] | rw [ofSp_no (t := t) (v := v) (a := a) h0 h1 h2 h5] | rw [ofSp, if_pos h0] | rw [ofSp, if_neg h0, if_pos h1] | rw [ofSp, if_neg h0, if_neg h1, if_pos h2] | rw [show ofSp t v a = (0, 0) from by exfalso; first | omega | (simp_all; done)]
      refine g_rq ?_
      exact g_rl (⟨⟨rfl, rfl⟩, ⟨rfl, rfl⟩, trivial⟩) rfl
    · refine g_iteD (fun h1 => ?_) (fun h1 => ?_)
      · first | rw [ofSp_eq (t := t) (v := v) (a := a) hd h0 h1 h2 h5] | rw [ofSp_no (t := t) (v := v) (a := a) h0 h1 h2 h5] | rw [ofSp, if_pos h0] | rw [ofSp, if_neg h0, if_pos h1] | rw [ofSp, if_neg h0, if_neg h1, if_pos h2] | rw [show ofSp t v a = (0, 0) from by exfalso; first | omega | (simp_all; done)]
        refine g_rq ?_
        exact g_rl (⟨⟨rfl, rfl⟩, ⟨rfl, rfl⟩, trivial⟩) rfl
      · refine g_iteD (fun h2 => ?_) (fun h2 => ?_)
        · first | rw [ofSp_eq (t := t) (v := v) (a := a) hd h0 h1 h2 h5] | rw [ofSp_no (t := t) (v := v) (a := a) h0 h1 h2 h5] | rw [ofSp, if_pos h0] | rw [ofSp, if_neg h0, if_pos h1] | rw [ofSp, if_neg h0, if_neg h1, if_pos h2] | rw [show ofSp t v a = (0, 0) from by exfalso; first | omega | (simp_all; done)]
          refine g_rq ?_
          exact g_rl (⟨⟨rfl, rfl⟩, ⟨rfl, rfl⟩, trivial⟩) rfl
        · refine g_iteD (fun h3 => ?_) (fun h3 => ?_)
          · first | rw [ofSp_eq (t := t) (v := v) (a := a) hd h0 h1 h2 h5] | rw [ofSp_no (t := t) (v := v) (a := a) h0 h1 h2 h5] | rw [ofSp, if_pos h0] | rw [ofSp, if_neg h0, if_pos h1] | rw [ofSp, if_neg h0, if_neg h1, if_pos h2] | rw [show ofSp t v a = (0, 0) from by exfalso; first | omega | (simp_all; done)]
            refine g_rq ?_
            exact g_rl (⟨⟨rfl, rfl⟩, ⟨rfl, rfl⟩, trivial⟩) rfl
          · refine g_call (fine_fun t hc) (fun h => nomatch h) ?_
            refine g_iteN (fun h4 => ?_) (fun h4 => ?_)
            · first | rw [ofSp_eq (t := t) (v := v) (a := a) hd h0 h1 h2 h5] | rw [ofSp_no (t := t) (v := v) (a := a) h0 h1 h2 h5] | rw [ofSp, if_pos h0] | rw [ofSp, if_neg h0, if_pos h1] | rw [ofSp, if_neg h0, if_neg h1, if_pos h2] | rw [show ofSp t v a = (0, 0) from by exfalso; first | omega | (simp_all; done)]
              refine g_rq ?_
              exact g_rl (⟨⟨rfl, rfl⟩, ⟨rfl, rfl⟩, trivial⟩) rfl
            · refine g_need (by omega) ?_
              refine g_need (by omega) ?_
              refine g_call (tells_fun (t.2.2.2.1.getD (Int.toNat v) tIns.dflt).1) (fun h => nomatch h) ?_
              refine g_iteN (fun h5 => ?_) (fun h5 => ?_)
              · first | rw [ofSp_eq (t := t) (v := v) (a := a) hd h0 h1 h2 h5] | rw [ofSp_no (t := t) (v := v) (a := a) h0 h1 h2 h5] | rw [ofSp, if_pos h0] | rw [ofSp, if_neg h0, if_pos h1] | rw [ofSp, if_neg h0, if_neg h1, if_pos h2] | rw [show ofSp t v a = (0, 0) from by exfalso; first | omega | (simp_all; done)]
                refine g_rq ?_
                exact g_rl (⟨⟨rfl, rfl⟩, ⟨rfl, rfl⟩, trivial⟩) rfl
              · refine g_need (rfl) ?_
                refine g_callH (AFunH.frameB [2, 1] (span_all hd hL (Int.toNat a + 1) v a 0 (fun _ => none) (by omega) (by omega) (by omega) (by omega) (kept_nil t)) rfl rfl rfl rfl rfl rfl rfl) ?_
                first | rw [ofSp_eq (t := t) (v := v) (a := a) hd h0 h1 h2 h5] | rw [ofSp_no (t := t) (v := v) (a := a) h0 h1 h2 h5] | rw [ofSp, if_pos h0] | rw [ofSp, if_neg h0, if_pos h1] | rw [ofSp, if_neg h0, if_neg h1, if_pos h2] | rw [show ofSp t v a = (0, 0) from by exfalso; first | omega | (simp_all; done)]
                refine g_rq ?_
                exact g_rl (⟨⟨rfl, rfl⟩, ⟨rfl, rfl⟩, trivial⟩) rfl

noncomputable def oc109 : Orc where
  pure := fun f args => match f, args with
    | 15, [] => some (.c (.bool (true)))
    | 17, [a0, a1] => match dA tProg a0, dA tTrace a1 with
      | some x0, some x1 => some (.c (.int .i64 (checkF x0 x1)))
      | _, _ => none
    | 20, [a0, a1] => match dA tI a0, dA tI a1 with
      | some x0, some x1 => some (.c (.int .i64 (restFm x0 x1)))
      | _, _ => none
    | 30, [a0, a1, a2] => match dA tTrace a0, dA tI a1, dA tI a2 with
      | some x0, some x1, some x2 => some (.tup [.c (.int .i64 ((ofSp x0 x1 x2).1)), .c (.int .i64 ((ofSp x0 x1 x2).2))])
      | _, _, _ => none
    | _, _ => none
  heap := fun _ _ _ => none
def spanLater_lv : LV := ⟨(F2 (true :: true :: true :: false :: true :: F32 (F32 (F4 (false :: []))))), [3]⟩
noncomputable def spanLater_T (p : EProg) (t : ETrace) (v : Int) (a : Int) (b : Int) : Tree :=
  .call 17 [.agg (Ty.enc tProg p), .agg (Ty.enc tTrace t)] false (.c (.int .i64 (checkF p t))) <|
  .ite ((!(decide (checkF p t = 0))))
  (.call 15 [] false (.c (.bool true)) <|
   .ret (.c (.bool true)) [.cells 39 (Ty.enc tProg p), .cells 29 (Ty.enc tTrace t)])
  (.stop (rg (bodyOf Tryd.f10) 3) (J2 (.c (.int .i64 v) :: .c (.int .i64 a) :: .c (.int .i64 b) :: .junk :: .c (.ptr 1 0 0 0) :: J32 (J32 (J4 (.junk :: []))))) [.cells 39 (Ty.enc tProg p), .cells 29 (Ty.enc tTrace t)])
theorem spanLater_T_ok (p : EProg) (t : ETrace) (v : Int) (a : Int) (b : Int) : aRun Tryd.prog oc109 Tryd.f10 spanLater_lv 3000 [.code (bodyOf Tryd.f10)] ([.agg (tProg.enc p), .agg (tTrace.enc t), .c (.int .i64 v), .c (.int .i64 a), .c (.int .i64 b)] ++ List.replicate (Func.ntmps Tryd.f10 - 5) .junk) [] = spanLater_T p t v a b := by kernel_rfl
noncomputable def spanLater_r3_R (p : EProg) (t : ETrace) (v : Int) (a : Int) (b : Int) : Tree :=
  .need (inR .i64 ((t.2.2.2.1.length : Int) + 1)) <|
  .call 20 [.c (.int .i64 a), .c (.int .i64 ((t.2.2.2.1.length : Int) + 1))] false (.c (.int .i64 (restFm a ((t.2.2.2.1.length : Int) + 1)))) <|
  .need (inR .i64 ((t.2.2.2.1.length : Int) + 1)) <|
  .call 20 [.c (.int .i64 b), .c (.int .i64 ((t.2.2.2.1.length : Int) + 1))] false (.c (.int .i64 (restFm b ((t.2.2.2.1.length : Int) + 1)))) <|
  .need (inR .i64 (restFm b ((t.2.2.2.1.length : Int) + 1))) <|
  .need (inR .i64 (restFm b ((t.2.2.2.1.length : Int) + 1))) <|
  .ite (decide (v < 0))
  (.call 15 [] false (.c (.bool true)) <|
   .ret (.c (.bool true)) [.cells 29 (Ty.enc tTrace t)])
  (.ite (decide ((if restFm b ((t.2.2.2.1.length : Int) + 1) < restFm a ((t.2.2.2.1.length : Int) + 1) then restFm b ((t.2.2.2.1.length : Int) + 1) else restFm a ((t.2.2.2.1.length : Int) + 1)) ≤ v))
   (.call 15 [] false (.c (.bool true)) <|
    .ret (.c (.bool true)) [.cells 29 (Ty.enc tTrace t)])
   (.call 30 [.agg (Ty.enc tTrace t), .c (.int .i64 v), .c (.int .i64 (if restFm b ((t.2.2.2.1.length : Int) + 1) < restFm a ((t.2.2.2.1.length : Int) + 1) then restFm b ((t.2.2.2.1.length : Int) + 1) else restFm a ((t.2.2.2.1.length : Int) + 1)))] false (.tup [.c (.int .i64 (ofSp t v (if restFm b ((t.2.2.2.1.length : Int) + 1) < restFm a ((t.2.2.2.1.length : Int) + 1) then restFm b ((t.2.2.2.1.length : Int) + 1) else restFm a ((t.2.2.2.1.length : Int) + 1))).1), .c (.int .i64 (ofSp t v (if restFm b ((t.2.2.2.1.length : Int) + 1) < restFm a ((t.2.2.2.1.length : Int) + 1) then restFm b ((t.2.2.2.1.length : Int) + 1) else restFm a ((t.2.2.2.1.length : Int) + 1))).2)]) <|
    .call 30 [.agg (Ty.enc tTrace t), .c (.int .i64 v), .c (.int .i64 (if restFm b ((t.2.2.2.1.length : Int) + 1) > restFm a ((t.2.2.2.1.length : Int) + 1) then restFm b ((t.2.2.2.1.length : Int) + 1) else restFm a ((t.2.2.2.1.length : Int) + 1)))] false (.tup [.c (.int .i64 (ofSp t v (if restFm b ((t.2.2.2.1.length : Int) + 1) > restFm a ((t.2.2.2.1.length : Int) + 1) then restFm b ((t.2.2.2.1.length : Int) + 1) else restFm a ((t.2.2.2.1.length : Int) + 1))).1), .c (.int .i64 (ofSp t v (if restFm b ((t.2.2.2.1.length : Int) + 1) > restFm a ((t.2.2.2.1.length : Int) + 1) then restFm b ((t.2.2.2.1.length : Int) + 1) else restFm a ((t.2.2.2.1.length : Int) + 1))).2)]) <|
    .call 15 [] false (.c (.bool true)) <|
    .ite (true)
    (.ite (decide ((ofSp t v (if restFm b ((t.2.2.2.1.length : Int) + 1) < restFm a ((t.2.2.2.1.length : Int) + 1) then restFm b ((t.2.2.2.1.length : Int) + 1) else restFm a ((t.2.2.2.1.length : Int) + 1))).1 ≤ (ofSp t v (if restFm b ((t.2.2.2.1.length : Int) + 1) > restFm a ((t.2.2.2.1.length : Int) + 1) then restFm b ((t.2.2.2.1.length : Int) + 1) else restFm a ((t.2.2.2.1.length : Int) + 1))).1))
     (.ite (decide ((ofSp t v (if restFm b ((t.2.2.2.1.length : Int) + 1) > restFm a ((t.2.2.2.1.length : Int) + 1) then restFm b ((t.2.2.2.1.length : Int) + 1) else restFm a ((t.2.2.2.1.length : Int) + 1))).1 ≤ (ofSp t v (if restFm b ((t.2.2.2.1.length : Int) + 1) > restFm a ((t.2.2.2.1.length : Int) + 1) then restFm b ((t.2.2.2.1.length : Int) + 1) else restFm a ((t.2.2.2.1.length : Int) + 1))).2))
      (.ret (.c (.bool (decide ((ofSp t v (if restFm b ((t.2.2.2.1.length : Int) + 1) > restFm a ((t.2.2.2.1.length : Int) + 1) then restFm b ((t.2.2.2.1.length : Int) + 1) else restFm a ((t.2.2.2.1.length : Int) + 1))).2 ≤ (ofSp t v (if restFm b ((t.2.2.2.1.length : Int) + 1) < restFm a ((t.2.2.2.1.length : Int) + 1) then restFm b ((t.2.2.2.1.length : Int) + 1) else restFm a ((t.2.2.2.1.length : Int) + 1))).2)))) [.cells 29 (Ty.enc tTrace t)])
      (.ret (.c (.lit false)) [.cells 29 (Ty.enc tTrace t)]))
     (.ret (.c (.lit false)) [.cells 29 (Ty.enc tTrace t)]))
    (.ret (.c (.lit false)) [.cells 29 (Ty.enc tTrace t)])))
theorem spanLater_r3_R_ok (p : EProg) (t : ETrace) (v : Int) (a : Int) (b : Int) : aRound Tryd.prog oc109 Tryd.f10 spanLater_lv 3000 (rg (bodyOf Tryd.f10) 3) (J2 (.c (.int .i64 v) :: .c (.int .i64 a) :: .c (.int .i64 b) :: .junk :: .c (.ptr 0 0 0 0) :: J32 (J32 (J4 (.junk :: []))))) [.cells 29 (Ty.enc tTrace t)] = spanLater_r3_R p t v a b := by kernel_rfl
theorem spanLater_r3 (p : EProg) (t : ETrace) (v : Int) (a : Int) (b : Int) (hc : CheckOk p t) : Run Tryd.prog 10 (retQ Tryd.prog (.c (.bool (true)))) (rg (bodyOf Tryd.f10) 3) (J2 (.c (.int .i64 v) :: .c (.int .i64 a) :: .c (.int .i64 b) :: .junk :: .c (.ptr 0 0 0 0) :: J32 (J32 (J4 (.junk :: []))))) [.cells 29 (Ty.enc tTrace t)] :=
  Run.roundA oc109 spanLater_lv 3000 Tryd.func10 mixed (spanLater_r3_R p t v a b) (spanLater_r3_R_ok p t v a b) (by
    unfold spanLater_r3_R
    have hL := hc.n
    have ra := restFm_ok (n := a) (m := (t.2.2.2.1.length : Int) + 1) (by omega)
    have rb := restFm_ok (n := b) (m := (t.2.2.2.1.length : Int) + 1) (by omega)
    have hAB : (if restFm b ((t.2.2.2.1.length : Int) + 1) < restFm a ((t.2.2.2.1.length : Int) + 1) then restFm b ((t.2.2.2.1.length : Int) + 1) else restFm a ((t.2.2.2.1.length : Int) + 1)) ≤ (if restFm b ((t.2.2.2.1.length : Int) + 1) > restFm a ((t.2.2.2.1.length : Int) + 1) then restFm b ((t.2.2.2.1.length : Int) + 1) else restFm a ((t.2.2.2.1.length : Int) + 1)) := by split <;> split <;> omega
    have hB : (if restFm b ((t.2.2.2.1.length : Int) + 1) > restFm a ((t.2.2.2.1.length : Int) + 1) then restFm b ((t.2.2.2.1.length : Int) + 1) else restFm a ((t.2.2.2.1.length : Int) + 1)) ≤ (t.2.2.2.1.length : Int) := by split <;> omega
    have hA0 : 0 ≤ (if restFm b ((t.2.2.2.1.length : Int) + 1) < restFm a ((t.2.2.2.1.length : Int) + 1) then restFm b ((t.2.2.2.1.length : Int) + 1) else restFm a ((t.2.2.2.1.length : Int) + 1)) := by split <;> omega
    have hq : 0 ≤ v → v < (if restFm b ((t.2.2.2.1.length : Int) + 1) < restFm a ((t.2.2.2.1.length : Int) + 1) then restFm b ((t.2.2.2.1.length : Int) + 1) else restFm a ((t.2.2.2.1.length : Int) + 1)) → _ := fun q0 q1 => ofSp_later (dom_of hc) q0 q1 hAB hB
    refine g_need (by first | omega | (rw [i64_iff]; omega) | (rw [i64_iff]; constructor <;> omega) | (rw [i64_iff]; split <;> omega)) ?_
    refine g_call (rest_fun a ((t.2.2.2.1.length : Int) + 1) (by omega)) (fun h => nomatch h) ?_
    refine g_need (by first | omega | (rw [i64_iff]; omega) | (rw [i64_iff]; constructor <;> omega) | (rw [i64_iff]; split <;> omega)) ?_
    refine g_call (rest_fun b ((t.2.2.2.1.length : Int) + 1) (by omega)) (fun h => nomatch h) ?_
    refine g_need (by first | omega | (rw [i64_iff]; omega) | (rw [i64_iff]; constructor <;> omega) | (rw [i64_iff]; split <;> omega)) ?_
    refine g_need (by first | omega | (rw [i64_iff]; omega) | (rw [i64_iff]; constructor <;> omega) | (rw [i64_iff]; split <;> omega)) ?_
    refine g_iteD (fun h0 => ?_) (fun h0 => ?_)
    · refine g_call (irred_fun) (fun h => nomatch h) ?_
      refine g_rq ?_
      exact g_rl (leAV.refl _) rfl
    · refine g_iteD (fun h1 => ?_) (fun h1 => ?_)
      · refine g_call (irred_fun) (fun h => nomatch h) ?_
        refine g_rq ?_
        exact g_rl (leAV.refl _) rfl
      · refine g_call (spof_fun t v (if restFm b ((t.2.2.2.1.length : Int) + 1) < restFm a ((t.2.2.2.1.length : Int) + 1) then restFm b ((t.2.2.2.1.length : Int) + 1) else restFm a ((t.2.2.2.1.length : Int) + 1)) hc) (fun h => nomatch h) ?_
        refine g_call (spof_fun t v (if restFm b ((t.2.2.2.1.length : Int) + 1) > restFm a ((t.2.2.2.1.length : Int) + 1) then restFm b ((t.2.2.2.1.length : Int) + 1) else restFm a ((t.2.2.2.1.length : Int) + 1)) hc) (fun h => nomatch h) ?_
        refine g_call (irred_fun) (fun h => nomatch h) ?_
        refine g_ite (fun h2 => ?_) (fun h2 => ?_)
        · refine g_iteD (fun h3 => ?_) (fun h3 => ?_)
          · refine g_iteD (fun h4 => ?_) (fun h4 => ?_)
            · refine g_rq ?_
              exact g_rl ((show (decide ((ofSp t v (if restFm b ((t.2.2.2.1.length : Int) + 1) > restFm a ((t.2.2.2.1.length : Int) + 1) then restFm b ((t.2.2.2.1.length : Int) + 1) else restFm a ((t.2.2.2.1.length : Int) + 1))).2 ≤ (ofSp t v (if restFm b ((t.2.2.2.1.length : Int) + 1) < restFm a ((t.2.2.2.1.length : Int) + 1) then restFm b ((t.2.2.2.1.length : Int) + 1) else restFm a ((t.2.2.2.1.length : Int) + 1))).2) : Bool) = true from by first | rfl | exact decide_eq_true (hq (by omega) (by omega)).2.2 | (exfalso; have q := hq (by omega) (by omega); omega) | (exfalso; simp_all; done))) rfl
            · refine g_rq ?_
              exact g_rl ((show (false : Bool) = true from by first | rfl | exact decide_eq_true (hq (by omega) (by omega)).2.2 | (exfalso; have q := hq (by omega) (by omega); omega) | (exfalso; simp_all; done))) rfl
          · refine g_rq ?_
            exact g_rl ((show (false : Bool) = true from by first | rfl | exact decide_eq_true (hq (by omega) (by omega)).2.2 | (exfalso; have q := hq (by omega) (by omega); omega) | (exfalso; simp_all; done))) rfl
        · refine g_rq ?_
          exact g_rl ((show (false : Bool) = true from by first | rfl | exact decide_eq_true (hq (by omega) (by omega)).2.2 | (exfalso; have q := hq (by omega) (by omega); omega) | (exfalso; simp_all; done))) rfl
    )
theorem spanLater_fun (p : EProg) (t : ETrace) (v : Int) (a : Int) (b : Int) : AFun Tryd.prog 10 [.agg (tProg.enc p), .agg (tTrace.enc t), .c (.int .i64 v), .c (.int .i64 a), .c (.int .i64 b)] (.c (.bool (true))) :=
  AFun.of oc109 spanLater_lv 3000 Tryd.func10 mixed rfl (by decide) (Nat.le_of_ble_eq_true rfl) _ (spanLater_T_ok p t v a b) fun hF => by
    unfold spanLater_T
    refine g_call (check_fun p t) (fun h => nomatch h) ?_
    refine g_iteND (fun h0 => ?_) (fun h0 => ?_)
    · refine g_call (irred_fun) (fun h => nomatch h) ?_
      refine g_rq ?_
      exact g_rl (leAV.refl _) rfl
    · refine g_stop (RunN.keep [1] (F2 (true :: true :: true :: false :: true :: F32 (F32 (F4 (false :: []))))) n0 (by decide) rfl rfl ?_)
      exact spanLater_r3 p t v a b (check_iff.1 h0)

end Go.Proofs.YtefkifdhjabdiaaDoor
