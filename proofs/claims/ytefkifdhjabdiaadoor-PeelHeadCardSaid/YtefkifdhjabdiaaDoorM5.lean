/- What the laws' texts lean on, part 6: lemmas and the contracts of functions. No condition. -/
import Derived.Test.YtefkifdhjabdiaaDoorM4
import Derived.Test.YtefkifdhjabdiaaDoorM3
namespace Go.Proofs.YtefkifdhjabdiaaDoor
set_option maxHeartbeats 4000000
set_option linter.unusedVariables false
set_option linter.unusedSimpArgs false
set_option maxRecDepth 100000
def notQ (is : List Bool) (v : Int) : Bool := !(is.getD v.toNat (Ty.dflt .bool))
noncomputable def oc84 : Orc where
  pure := fun f args => match f, args with
    | _, _ => none
  heap := fun _ _ _ => none
def pnot_lv : LV := ⟨([]), []⟩
noncomputable def pnot_T (v : Int) (is : List Bool) : Tree :=
  .need (0 < ([is]).length) <|
  .need ((0 : Int) ≤ v ∧ (v : Int) < ((([is]).getD 0 ((.slice .bool) : Ty).dflt).length : Int)) <|
  .need ((Int.toNat v) < (([is]).getD 0 ((.slice .bool) : Ty).dflt).length) <|
  .ret (.c (.bool (!((([is]).getD 0 ((.slice .bool) : Ty).dflt).getD (Int.toNat v) (.bool : Ty).dflt)))) []
theorem pnot_T_ok (v : Int) (is : List Bool) : aRun Tryd.prog oc84 Tryd.f57 pnot_lv 3000 [.code (bodyOf Tryd.f57)] ([.c (.int .i64 v), .c (.pro (.slice .bool) ([is]) 0 0)] ++ List.replicate (Func.ntmps Tryd.f57 - 2) .junk) [] = pnot_T v is := by kernel_rfl
theorem pnot_fun (v : Int) (is : List Bool) (hv : 0 ≤ v ∧ v < (is.length : Int)) : AFun Tryd.prog 57 [.c (.int .i64 v), .c (.pro (.slice .bool) ([is]) 0 0)] (.c (.bool (notQ is v))) :=
  AFun.of oc84 pnot_lv 3000 Tryd.func57 mixed rfl (by decide) (Nat.le_of_ble_eq_true rfl) _ (pnot_T_ok v is) fun hF => by
    unfold pnot_T
    refine g_need (by first | exact hv | (show v.toNat < is.length; omega) | (simp; done)) ?_
    refine g_need (by first | exact hv | (show v.toNat < is.length; omega) | (simp; done)) ?_
    refine g_need (by first | exact hv | (show v.toNat < is.length; omega) | (simp; done)) ?_
    exact g_retb (by first | rfl | simp [notQ])

noncomputable def oc85 : Orc where
  pure := fun f args => match f, args with
    | 57, [a0, .one (.c (.pro ((.slice .bool) : Ty) [x1] 0 0))] => match dA tI a0 with
      | some x0 => some (.c (.bool (notQ x1 x0)))
      | _ => none
    | _, _ => none
  heap := fun _ _ _ => none
def pIdx_lv : LV := ⟨(true :: true :: F4 (false :: true :: true :: F8 (F2 ([])))), []⟩
noncomputable def pIdx_T (l : List Int) (is : List Bool) : Tree :=
  .stop (lp (bodyOf Tryd.f93) 0) (.c (.ro tI l) :: .c (.fnc (.fn0 57) (.pro (.slice .bool) ([is]) 0 0)) :: J4 (.junk :: .c (.int .i64 (l.length : Int)) :: .c (.int .i64 0) :: J8 (J2 ([])))) []
theorem pIdx_T_ok (l : List Int) (is : List Bool) : aRun Tryd.prog oc85 Tryd.f93 pIdx_lv 3000 [.code (bodyOf Tryd.f93)] ([.c (.ro tI l), .c (.fnc (.fn0 57) (.pro (.slice .bool) ([is]) 0 0))] ++ List.replicate (Func.ntmps Tryd.f93 - 2) .junk) [] = pIdx_T l is := by kernel_rfl
noncomputable def pIdx_l0_R (l : List Int) (is : List Bool) (i : Nat) : Tree :=
  .ite (decide (((i : Nat) : Int) < (l.length : Int)))
  (.need ((0 : Int) ≤ ((i : Nat) : Int) ∧ (((i : Nat) : Int) : Int) < (l.length : Int)) <|
   .need (i < l.length) <|
   .call 57 [.c (.int .i64 (l.getD i tI.dflt)), .c (.pro (.slice .bool) ([is]) 0 0)] false (.c (.bool (notQ is (l.getD i tI.dflt)))) <|
   .ite (notQ is (l.getD i tI.dflt))
   (.ret (.c (.int .i64 ((i : Nat) : Int))) [])
   (.need (inR .i64 (((i : Nat) : Int) + 1)) <|
    .stop (lp (bodyOf Tryd.f93) 0) (.c (.ro tI l) :: .c (.fnc (.fn0 57) (.pro (.slice .bool) ([is]) 0 0)) :: J4 (.junk :: .c (.int .i64 (l.length : Int)) :: .c (.int .i64 (((i : Nat) : Int) + 1)) :: J8 (J2 ([])))) []))
  (.ret (.c (.int .i64 (-1))) [])
theorem pIdx_l0_R_ok (l : List Int) (is : List Bool) (i : Nat) : aRound Tryd.prog oc85 Tryd.f93 pIdx_lv 3000 (lp (bodyOf Tryd.f93) 0) (.c (.ro tI l) :: .c (.fnc (.fn0 57) (.pro (.slice .bool) ([is]) 0 0)) :: J4 (.junk :: .c (.int .i64 (l.length : Int)) :: .c (.int .i64 ((i : Nat) : Int)) :: J8 (J2 ([])))) [] = pIdx_l0_R l is i := by kernel_rfl
theorem pIdx_l0 (l : List Int) (is : List Bool) (i : Nat) (hb : l.length ≤ 9223372036854775807) (hv : ∀ v ∈ l, 0 ≤ v ∧ v < (is.length : Int)) : Run Tryd.prog 93 (retQ Tryd.prog (.c (.int .i64 (fstG (notQ is) i (l.drop i))))) (lp (bodyOf Tryd.f93) 0) (.c (.ro tI l) :: .c (.fnc (.fn0 57) (.pro (.slice .bool) ([is]) 0 0)) :: J4 (.junk :: .c (.int .i64 (l.length : Int)) :: .c (.int .i64 ((i : Nat) : Int)) :: J8 (J2 ([])))) [] :=
  Run.roundA oc85 pIdx_lv 3000 Tryd.func93 mixed (pIdx_l0_R l is i) (pIdx_l0_R_ok l is i) (by
    unfold pIdx_l0_R
    refine g_iteD (fun h0 => ?_) (fun h0 => ?_)
    · refine g_need (by omega) ?_
      refine g_need (by omega) ?_
      refine g_call (pnot_fun (l.getD i tI.dflt) is (hv _ (getD_mem (α := Int) (Ty.dflt tI) (by omega)))) (fun h => nomatch h) ?_
      refine g_ite (fun h1 => ?_) (fun h1 => ?_)
      · exact g_reti (by first | (rw [dropCons (α := Int) (Ty.dflt tI) (by omega)]; simp only [fstG, h0, h1, if_true]; done) | (rw [List.drop_eq_nil_of_le (by omega)]; rfl))
      · refine g_need (i64_iff.2 (by omega)) ?_
        refine g_stop (RunN.keep [] (true :: true :: F4 (false :: true :: true :: F8 (F2 ([])))) n0 (by decide) rfl rfl ?_)
        have := pIdx_l0 l is (i + 1) hb hv; rw [dropCons (α := Int) (Ty.dflt tI) (by omega)]; simp only [fstG, h0, h1, if_false, Bool.false_eq_true]; exact this
    · exact g_reti (by first | (rw [dropCons (α := Int) (Ty.dflt tI) (by omega)]; simp only [fstG, h0, if_true]; done) | (rw [List.drop_eq_nil_of_le (by omega)]; rfl))
    )
  termination_by l.length - i
  decreasing_by all_goals omega
theorem pIdx_fun (l : List Int) (is : List Bool) (hv : ∀ v ∈ l, 0 ≤ v ∧ v < (is.length : Int)) : AFun Tryd.prog 93 [.c (.ro tI l), .c (.fnc (.fn0 57) (.pro (.slice .bool) ([is]) 0 0))] (.c (.int .i64 (fstG (notQ is) 0 l))) :=
  AFun.of oc85 pIdx_lv 3000 Tryd.func93 mixed rfl (by decide) (Nat.le_of_ble_eq_true rfl) _ (pIdx_T_ok l is) fun hF => by
    have hb : l.length ≤ 9223372036854775807 := hF.ro.1.1
    unfold pIdx_T
    refine g_stop (RunN.keep [] (true :: true :: F4 (false :: true :: true :: F8 (F2 ([])))) n0 (by decide) rfl rfl ?_)
    exact pIdx_l0 l is 0 hb hv

noncomputable def oc86 : Orc where
  pure := fun f args => match f, args with
    | 93, [a0, .one (.c (.fnc (.fn0 57) (.pro ((.slice .bool) : Ty) [x1] 0 0)))] => match dA (.slice tI) a0 with
      | some x0 => some (.c (.int .i64 (fstG (notQ x1) 0 x0)))
      | _ => none
    | _, _ => none
  heap := fun _ _ _ => none
def pCon_lv : LV := ⟨([]), []⟩
noncomputable def pCon_T (l : List Int) (is : List Bool) : Tree :=
  .call 93 [.c (.ro tI l), .c (.fnc (.fn0 57) (.pro (.slice .bool) ([is]) 0 0))] false (.c (.int .i64 (fstG (notQ is) 0 l))) <|
  .ret (.c (.bool (decide ((0 : Int) ≤ fstG (notQ is) 0 l)))) []
theorem pCon_T_ok (l : List Int) (is : List Bool) : aRun Tryd.prog oc86 Tryd.f56 pCon_lv 3000 [.code (bodyOf Tryd.f56)] ([.c (.ro tI l), .c (.fnc (.fn0 57) (.pro (.slice .bool) ([is]) 0 0))] ++ List.replicate (Func.ntmps Tryd.f56 - 2) .junk) [] = pCon_T l is := by kernel_rfl
theorem pCon_fun (l : List Int) (is : List Bool) (hv : ∀ v ∈ l, 0 ≤ v ∧ v < (is.length : Int)) : AFun Tryd.prog 56 [.c (.ro tI l), .c (.fnc (.fn0 57) (.pro (.slice .bool) ([is]) 0 0))] (.c (.bool (List.any l (notQ is)))) :=
  AFun.of oc86 pCon_lv 3000 Tryd.func56 mixed rfl (by decide) (Nat.le_of_ble_eq_true rfl) _ (pCon_T_ok l is) fun hF => by
    unfold pCon_T
    refine g_call (pIdx_fun l is hv) (fun h => nomatch h) ?_
    exact g_retb (by exact fstG_ge)

theorem ask_bnd {p : EProg} {t : ETrace} (hc : CheckOk p t) {i : Nat} (hi : i < t.2.2.2.1.length) {is : List Bool} (hl : is.length = t.2.2.2.1.length) : ∀ v ∈ askF (t.2.2.2.1.getD i tIns.dflt), 0 ≤ v ∧ v < (is.length : Int) := by
  have ex : t.2.2.2.1[i]? = some (t.2.2.2.1.getD i tIns.dflt) := by rw [List.getD_eq_getElem?_getD, List.getElem?_eq_getElem hi]; rfl
  obtain ⟨h1, h2⟩ := hc.ins i _ ex
  unfold formedF at h2
  rw [Bool.and_eq_true] at h2
  intro v hv
  unfold askF at hv
  rw [if_pos h1] at hv
  obtain ⟨q0, q1, _⟩ := valueF_in (List.all_eq_true.1 h2.1 v hv)
  omega
theorem sh_small {x : EExit} {n : Int} (h : exitSm x) : exitSm (shExit n x) := by
  obtain ⟨h1, h2, h3⟩ := h
  refine ⟨by simpa [shExit] using h1, by simpa [shExit] using h2, fun m hm => ?_⟩
  simp only [shExit, List.mem_map] at hm
  obtain ⟨m', hm', rfl⟩ := hm
  simpa [shMake] using h3 m' hm'
theorem tw_small {p : EProg} {t : ETrace} (hc : CheckOk p t) : traceSm (twF t) := by
  have h := hc.small
  have hn := hc.n
  have hm := hc.m
  refine ⟨by simp [twF]; omega, ⟨by simp [twF]; omega, fun x hx => ?_⟩, h.2.2.2, sh_small h.2.2.2⟩
  simp only [twF, List.mem_append, List.mem_map] at hx
  rcases hx with hx | ⟨y, hy, rfl⟩
  · exact h.2.1.2 x hx
  · exact sh_small (h.2.1.2 y hy)
def pSt (t : ETrace) (is : List Bool) (x : EIns) : Bool := firmF t x && !(List.any (askF x) (notQ is))
def pTo (n i : Int) (b : Bool) (x : EIns) : Int := if b = true then (if tellF x.1 = true then i else -1) else n + i
def pLoop (t : ETrace) : Nat → List EIns → List Bool → List Int → List Int
  | _, [], _, to => to
  | i, x :: r, is, to => pLoop t (i + 1) r (is.set i (pSt t is x)) (to ++ [pTo (t.2.2.2.1.length : Int) i (pSt t is x) x])
def peelTo (t : ETrace) : List Int := pLoop t 0 t.2.2.2.1 (List.replicate t.2.2.2.1.length false) (iota t.2.2.2.1.length)
def peelR (t : ETrace) : ETrace × Int := if 0 < t.2.2.1 ∨ t.2.2.2.1.length = 0 ∨ 150 < t.2.2.2.1.length ∨ 100 < t.2.2.2.2.1.length then cutF t (iota t.2.2.2.1.length) else cutF (twF t) (peelTo t)
noncomputable def peelDo (p : EProg) (t : ETrace) : ETrace × Int := if checkF p t = 0 then peelR t else (noT, checkF p t)
theorem getD_set {α : Type} {l : List α} {i : Nat} {a d : α} (h : i < l.length) : (l.set i a).getD i d = a := by
  rw [List.getD_eq_getElem?_getD, List.getElem?_set_self h]; rfl
noncomputable def oc87 : Orc where
  pure := fun f args => match f, args with
    | 17, [a0, a1] => match dA tProg a0, dA tTrace a1 with
      | some x0, some x1 => some (.c (.int .i64 (checkF x0 x1)))
      | _, _ => none
    | 18, [a0] => match dA tIns a0 with
      | some x0 => some (.c (.ro tI (askF x0)))
      | _ => none
    | 19, [a0] => match dA tI a0 with
      | some x0 => some (.c (.bool (tellF x0)))
      | _ => none
    | 22, [a0, a1] => match dA tTrace a0, dA (.slice tI) a1 with
      | some x0, some x1 => some (.tup [.agg (Ty.enc tTrace ((cutF x0 x1).1)), .c (.int .i64 ((cutF x0 x1).2))])
      | _, _ => none
    | 55, [a0, a1] => match dA tTrace a0, dA tIns a1 with
      | some x0, some x1 => some (.c (.bool (firmF x0 x1)))
      | _, _ => none
    | 58, [a0] => match dA tTrace a0 with
      | some x0 => some (.agg (Ty.enc tTrace (twF x0)))
      | _ => none
    | _, _ => none
  heap := fun f args H => match f, args with
    | 56, [a0, .one (.c (.fnc (.fn0 57) (.ptr b0 0 0 0)))] => match cellsAs 108 H[b0]? with
      | some [.sl b1 1 0 n1] => (match dA (.slice tI) a0, vecAs 4 .bool H[b1]? with
        | some x0, some y1 => some (.c (.bool (List.any x0 (notQ y1))), H, [])
        | _, _ => none)
      | _ => none
    | _, _ => none
def peeldo_lv : LV := ⟨(F2 (false :: true :: true :: F2 (true :: true :: false :: true :: true :: true :: F8 (F4 (false :: true :: true :: F32 (true :: true :: true :: F32 (F8 (F4 (F2 (false :: [])))))))))), [12, 13, 19]⟩
abbrev bCy9 : AB := .cells 29 [.int .i64 0, .int .i64 0, .int .i64 0, .nilsl, .nilsl, .int .i64 0, .int .i64 0, .nilsl, .nilsl, .int .i64 0, .int .i64 0, .nilsl, .nilsl]
noncomputable def peeldo_T (p : EProg) (t : ETrace) : Tree :=
  .call 17 [.agg (Ty.enc tProg p), .agg (Ty.enc tTrace t)] false (.c (.int .i64 (checkF p t))) <|
  .ite ((!(decide (checkF p t = 0))))
  (.ret (.tup [.agg [.int .i64 0, .int .i64 0, .int .i64 0, .nilsl, .nilsl, .int .i64 0, .int .i64 0, .nilsl, .nilsl, .int .i64 0, .int .i64 0, .nilsl, .nilsl], .c (.int .i64 (checkF p t))]) [.cells 39 (Ty.enc tProg p), .cells 29 (Ty.enc tTrace t), bCy9])
  (.need (inR .i64 (2 * (t.2.2.2.1.length : Int))) <|
   .need ((0 : Int) ≤ 0 ∧ (0 : Int) ≤ (2 * (t.2.2.2.1.length : Int)) ∧ ((2 * (t.2.2.2.1.length : Int)) : Int) ≤ 140737488355328 ∧ (8 : Int) * (2 * (t.2.2.2.1.length : Int)) ≤ 140737488355328) <|
   .stop (lp (bodyOf Tryd.f27) 0) (J2 (.junk :: .c (.ptr 1 0 0 0) :: .c (.ptr 2 0 0 0) :: J2 (.c (.int .i64 (t.2.2.2.1.length : Int)) :: .c (.sl 3 1 0 0) :: J16 (.junk :: .c (.int .i64 (t.2.2.2.1.length : Int)) :: .c (.int .i64 0) :: J32 (J32 (J16 (J2 ([])))))))) [.cells 39 (Ty.enc tProg p), .cells 29 (Ty.enc tTrace t), bCy9, .vec 3 tI (List.replicate 0 0)])
theorem peeldo_T_ok (p : EProg) (t : ETrace) : aRun Tryd.prog oc87 Tryd.f27 peeldo_lv 3000 [.code (bodyOf Tryd.f27)] ([.agg (tProg.enc p), .agg (tTrace.enc t)] ++ List.replicate (Func.ntmps Tryd.f27 - 2) .junk) [] = peeldo_T p t := by kernel_rfl
abbrev bCy0 (t : ETrace) (i : Nat) : AB := .cells 46 [.int .i64 (t.2.2.2.1.getD i tIns.dflt).1, .int .i64 (t.2.2.2.1.getD i tIns.dflt).2.1, .int .i64 (t.2.2.2.1.getD i tIns.dflt).2.2.1, .int .i64 (t.2.2.2.1.getD i tIns.dflt).2.2.2.1, .int .i64 (t.2.2.2.1.getD i tIns.dflt).2.2.2.2.1, .int .i64 (t.2.2.2.1.getD i tIns.dflt).2.2.2.2.2.1, .int .i64 (t.2.2.2.1.getD i tIns.dflt).2.2.2.2.2.2.1, .int .i64 (t.2.2.2.1.getD i tIns.dflt).2.2.2.2.2.2.2]
abbrev bCy3 (t : ETrace) (i : Nat) : List AV := (J8 (J4 (J2 (.junk :: .c (.ro tIns t.2.2.2.1) :: .c (.int .i64 (t.2.2.2.1.length : Int)) :: .c (.int .i64 (((i : Nat) : Int) + 1)) :: J32 (J8 (J4 (J2 (.junk :: []))))))))
noncomputable def peeldo_r19_R (p : EProg) (t : ETrace) (i : Nat) (to : List Int) (p0 : Nat) (is : List Bool) : Tree :=
  .need ((0 : Int) ≤ ((i : Nat) : Int) ∧ (((i : Nat) : Int) : Int) < ((t.2.2.2.1.length : Nat) : Int)) <|
  .need ((0 + i) < is.length) <|
  .ite ((!(is.getD (0 + i) (.bool : Ty).dflt)))
  (.need (inR .i64 ((t.2.2.2.1.length : Int) + ((i : Nat) : Int))) <|
   .need (0 = 0 ∧ p0 = to.length) <|
   .need (0 = 0 ∧ 1 = ([((t.2.2.2.1.length : Int) + ((i : Nat) : Int))]).length) <|
   .need ((to.length + ([((t.2.2.2.1.length : Int) + ((i : Nat) : Int))]).length) * 8 ≤ 140737488355328) <|
   .need (inR .i64 (((i : Nat) : Int) + 1)) <|
   .stop (lp (bodyOf Tryd.f27) 1) (J2 (.junk :: .c (.ptr 0 0 0 0) :: .c (.ptr 1 0 0 0) :: J2 (.c (.int .i64 (t.2.2.2.1.length : Int)) :: .c (.sl 7 1 0 (to.length + ([((t.2.2.2.1.length : Int) + ((i : Nat) : Int))]).length)) :: .junk :: .c (.ptr 4 0 0 0) :: .c (.int .i64 ((i : Nat) : Int)) :: .c (.ptr 5 0 0 0) :: J32 (bCy3 t i)))) [.cells 29 (Ty.enc tTrace t), bCy9, .dead, .vec 4 .bool is, .cells 108 [.sl 3 1 0 t.2.2.2.1.length], (bCy0 t i), .vec 3 tI ([((t.2.2.2.1.length : Int) + ((i : Nat) : Int))]), .vec 3 tI (to ++ [((t.2.2.2.1.length : Int) + ((i : Nat) : Int))])])
  (.call 19 [.c (.int .i64 (t.2.2.2.1.getD i tIns.dflt).1)] false (.c (.bool (tellF (t.2.2.2.1.getD i tIns.dflt).1))) <|
   .ite (tellF (t.2.2.2.1.getD i tIns.dflt).1)
   (.need (0 = 0 ∧ p0 = to.length) <|
    .need (0 = 0 ∧ 1 = ([((i : Nat) : Int)]).length) <|
    .need ((to.length + ([((i : Nat) : Int)]).length) * 8 ≤ 140737488355328) <|
    .need (inR .i64 (((i : Nat) : Int) + 1)) <|
    .stop (lp (bodyOf Tryd.f27) 1) (J2 (.junk :: .c (.ptr 0 0 0 0) :: .c (.ptr 1 0 0 0) :: J2 (.c (.int .i64 (t.2.2.2.1.length : Int)) :: .c (.sl 7 1 0 (to.length + ([((i : Nat) : Int)]).length)) :: .junk :: .c (.ptr 4 0 0 0) :: .c (.int .i64 ((i : Nat) : Int)) :: .c (.ptr 5 0 0 0) :: J32 (bCy3 t i)))) [.cells 29 (Ty.enc tTrace t), bCy9, .dead, .vec 4 .bool is, .cells 108 [.sl 3 1 0 t.2.2.2.1.length], (bCy0 t i), .vec 3 tI ([((i : Nat) : Int)]), .vec 3 tI (to ++ [((i : Nat) : Int)])])
   (.need (0 = 0 ∧ p0 = to.length) <|
    .need (0 = 0 ∧ 1 = ([(-1)]).length) <|
    .need ((to.length + ([(-1)]).length) * 8 ≤ 140737488355328) <|
    .need (inR .i64 (((i : Nat) : Int) + 1)) <|
    .stop (lp (bodyOf Tryd.f27) 1) (J2 (.junk :: .c (.ptr 0 0 0 0) :: .c (.ptr 1 0 0 0) :: J2 (.c (.int .i64 (t.2.2.2.1.length : Int)) :: .c (.sl 7 1 0 (to.length + ([(-1)]).length)) :: .junk :: .c (.ptr 4 0 0 0) :: .c (.int .i64 ((i : Nat) : Int)) :: .c (.ptr 5 0 0 0) :: J32 (bCy3 t i)))) [.cells 29 (Ty.enc tTrace t), bCy9, .dead, .vec 4 .bool is, .cells 108 [.sl 3 1 0 t.2.2.2.1.length], (bCy0 t i), .vec 3 tI ([(-1)]), .vec 3 tI (to ++ [(-1)])]))
abbrev bCy1 (t : ETrace) (p0 : Nat) (i : Nat) : List AV := (J2 (.junk :: .c (.ptr 0 0 0 0) :: .c (.ptr 1 0 0 0) :: J2 (.c (.int .i64 (t.2.2.2.1.length : Int)) :: .c (.sl 2 1 0 p0) :: .junk :: .c (.ptr 4 0 0 0) :: .c (.int .i64 ((i : Nat) : Int)) :: .c (.ptr 5 0 0 0) :: J32 (J8 (J4 (J2 (.junk :: .c (.ro tIns t.2.2.2.1) :: .c (.int .i64 (t.2.2.2.1.length : Int)) :: .c (.int .i64 ((i : Nat) : Int)) :: J32 (J8 (J4 (J2 (.junk :: [])))))))))))
theorem peeldo_r19_R_ok (p : EProg) (t : ETrace) (i : Nat) (to : List Int) (p0 : Nat) (is : List Bool) : aRound Tryd.prog oc87 Tryd.f27 peeldo_lv 3000 (rg (bodyOf Tryd.f27) 19) (bCy1 t p0 i) [.cells 29 (Ty.enc tTrace t), bCy9, .vec 3 tI to, .vec 4 .bool is, .cells 108 [.sl 3 1 0 t.2.2.2.1.length], (bCy0 t i)] = peeldo_r19_R p t i to p0 is := by kernel_rfl
noncomputable def peeldo_l1_R (p : EProg) (t : ETrace) (i : Nat) (to : List Int) (p0 : Nat) (is : List Bool) : Tree :=
  .ite (decide (((i : Nat) : Int) < (t.2.2.2.1.length : Int)))
  (.need ((0 : Int) ≤ ((i : Nat) : Int) ∧ (((i : Nat) : Int) : Int) < (t.2.2.2.1.length : Int)) <|
   .need (i < t.2.2.2.1.length) <|
   .call 55 [.agg (Ty.enc tTrace t), .agg [.int .i64 (t.2.2.2.1.getD i tIns.dflt).1, .int .i64 (t.2.2.2.1.getD i tIns.dflt).2.1, .int .i64 (t.2.2.2.1.getD i tIns.dflt).2.2.1, .int .i64 (t.2.2.2.1.getD i tIns.dflt).2.2.2.1, .int .i64 (t.2.2.2.1.getD i tIns.dflt).2.2.2.2.1, .int .i64 (t.2.2.2.1.getD i tIns.dflt).2.2.2.2.2.1, .int .i64 (t.2.2.2.1.getD i tIns.dflt).2.2.2.2.2.2.1, .int .i64 (t.2.2.2.1.getD i tIns.dflt).2.2.2.2.2.2.2]] false (.c (.bool (firmF t (t.2.2.2.1.getD i tIns.dflt)))) <|
   .ite (firmF t (t.2.2.2.1.getD i tIns.dflt))
   (.call 18 [.agg [.int .i64 (t.2.2.2.1.getD i tIns.dflt).1, .int .i64 (t.2.2.2.1.getD i tIns.dflt).2.1, .int .i64 (t.2.2.2.1.getD i tIns.dflt).2.2.1, .int .i64 (t.2.2.2.1.getD i tIns.dflt).2.2.2.1, .int .i64 (t.2.2.2.1.getD i tIns.dflt).2.2.2.2.1, .int .i64 (t.2.2.2.1.getD i tIns.dflt).2.2.2.2.2.1, .int .i64 (t.2.2.2.1.getD i tIns.dflt).2.2.2.2.2.2.1, .int .i64 (t.2.2.2.1.getD i tIns.dflt).2.2.2.2.2.2.2]] false (.c (.ro tI (askF (t.2.2.2.1.getD i tIns.dflt)))) <|
    .callH 56 [.c (.ro tI (askF (t.2.2.2.1.getD i tIns.dflt))), .c (.fnc (.fn0 57) (.ptr 4 0 0 0))] [.cells 29 (Ty.enc tTrace t), bCy9, .vec 3 tI to, .vec 4 .bool is, .cells 108 [.sl 3 1 0 t.2.2.2.1.length], (bCy0 t i)] (.c (.bool (List.any (askF (t.2.2.2.1.getD i tIns.dflt)) (notQ is)))) [.cells 29 (Ty.enc tTrace t), bCy9, .vec 3 tI to, .vec 4 .bool is, .cells 108 [.sl 3 1 0 t.2.2.2.1.length], (bCy0 t i)] [] <|
    .need ((0 : Int) ≤ ((i : Nat) : Int) ∧ (((i : Nat) : Int) : Int) < ((t.2.2.2.1.length : Nat) : Int)) <|
    .need ((0 + i) < is.length) <|
    .stop (rg (bodyOf Tryd.f27) 19) (bCy1 t p0 i) [.cells 29 (Ty.enc tTrace t), bCy9, .vec 3 tI to, .vec 4 .bool (is.set (0 + i) (!(List.any (askF (t.2.2.2.1.getD i tIns.dflt)) (notQ is)))), .cells 108 [.sl 3 1 0 t.2.2.2.1.length], (bCy0 t i)])
   (.need ((0 : Int) ≤ ((i : Nat) : Int) ∧ (((i : Nat) : Int) : Int) < ((t.2.2.2.1.length : Nat) : Int)) <|
    .need ((0 + i) < is.length) <|
    .stop (rg (bodyOf Tryd.f27) 19) (bCy1 t p0 i) [.cells 29 (Ty.enc tTrace t), bCy9, .vec 3 tI to, .vec 4 .bool (is.set (0 + i) false), .cells 108 [.sl 3 1 0 t.2.2.2.1.length], (bCy0 t i)]))
  (.call 58 [.agg (Ty.enc tTrace t)] false (.agg [.int .i64 (twF t).1, .int .i64 (twF t).2.1, .int .i64 (twF t).2.2.1, .ro tIns (twF t).2.2.2.1, .ro tExit (twF t).2.2.2.2.1, .int .i64 (twF t).2.2.2.2.2.1.1, .int .i64 (twF t).2.2.2.2.2.1.2.1, .ro tVal (twF t).2.2.2.2.2.1.2.2.1, .ro tMake (twF t).2.2.2.2.2.1.2.2.2, .int .i64 (twF t).2.2.2.2.2.2.1, .int .i64 (twF t).2.2.2.2.2.2.2.1, .ro tVal (twF t).2.2.2.2.2.2.2.2.1, .ro tMake (twF t).2.2.2.2.2.2.2.2.2]) <|
   .need (0 = 0 ∧ p0 = to.length) <|
   .call 22 [.agg [.int .i64 (twF t).1, .int .i64 (twF t).2.1, .int .i64 (twF t).2.2.1, .ro tIns (twF t).2.2.2.1, .ro tExit (twF t).2.2.2.2.1, .int .i64 (twF t).2.2.2.2.2.1.1, .int .i64 (twF t).2.2.2.2.2.1.2.1, .ro tVal (twF t).2.2.2.2.2.1.2.2.1, .ro tMake (twF t).2.2.2.2.2.1.2.2.2, .int .i64 (twF t).2.2.2.2.2.2.1, .int .i64 (twF t).2.2.2.2.2.2.2.1, .ro tVal (twF t).2.2.2.2.2.2.2.2.1, .ro tMake (twF t).2.2.2.2.2.2.2.2.2], .c (.ro tI to)] false (.tup [.agg [.int .i64 (cutF (twF t) to).1.1, .int .i64 (cutF (twF t) to).1.2.1, .int .i64 (cutF (twF t) to).1.2.2.1, .ro tIns (cutF (twF t) to).1.2.2.2.1, .ro tExit (cutF (twF t) to).1.2.2.2.2.1, .int .i64 (cutF (twF t) to).1.2.2.2.2.2.1.1, .int .i64 (cutF (twF t) to).1.2.2.2.2.2.1.2.1, .ro tVal (cutF (twF t) to).1.2.2.2.2.2.1.2.2.1, .ro tMake (cutF (twF t) to).1.2.2.2.2.2.1.2.2.2, .int .i64 (cutF (twF t) to).1.2.2.2.2.2.2.1, .int .i64 (cutF (twF t) to).1.2.2.2.2.2.2.2.1, .ro tVal (cutF (twF t) to).1.2.2.2.2.2.2.2.2.1, .ro tMake (cutF (twF t) to).1.2.2.2.2.2.2.2.2.2], .c (.int .i64 (cutF (twF t) to).2)]) <|
   .ret (.tup [.agg [.int .i64 (cutF (twF t) to).1.1, .int .i64 (cutF (twF t) to).1.2.1, .int .i64 (cutF (twF t) to).1.2.2.1, .ro tIns (cutF (twF t) to).1.2.2.2.1, .ro tExit (cutF (twF t) to).1.2.2.2.2.1, .int .i64 (cutF (twF t) to).1.2.2.2.2.2.1.1, .int .i64 (cutF (twF t) to).1.2.2.2.2.2.1.2.1, .ro tVal (cutF (twF t) to).1.2.2.2.2.2.1.2.2.1, .ro tMake (cutF (twF t) to).1.2.2.2.2.2.1.2.2.2, .int .i64 (cutF (twF t) to).1.2.2.2.2.2.2.1, .int .i64 (cutF (twF t) to).1.2.2.2.2.2.2.2.1, .ro tVal (cutF (twF t) to).1.2.2.2.2.2.2.2.2.1, .ro tMake (cutF (twF t) to).1.2.2.2.2.2.2.2.2.2], .c (.int .i64 (cutF (twF t) to).2)]) [.cells 29 (Ty.enc tTrace t), .cells 29 [.int .i64 (cutF (twF t) to).1.1, .int .i64 (cutF (twF t) to).1.2.1, .int .i64 (cutF (twF t) to).1.2.2.1, .ro tIns (cutF (twF t) to).1.2.2.2.1, .ro tExit (cutF (twF t) to).1.2.2.2.2.1, .int .i64 (cutF (twF t) to).1.2.2.2.2.2.1.1, .int .i64 (cutF (twF t) to).1.2.2.2.2.2.1.2.1, .ro tVal (cutF (twF t) to).1.2.2.2.2.2.1.2.2.1, .ro tMake (cutF (twF t) to).1.2.2.2.2.2.1.2.2.2, .int .i64 (cutF (twF t) to).1.2.2.2.2.2.2.1, .int .i64 (cutF (twF t) to).1.2.2.2.2.2.2.2.1, .ro tVal (cutF (twF t) to).1.2.2.2.2.2.2.2.2.1, .ro tMake (cutF (twF t) to).1.2.2.2.2.2.2.2.2.2], .dead, .vec 4 .bool is, .cells 108 [.sl 3 1 0 t.2.2.2.1.length]])
theorem peeldo_l1_R_ok (p : EProg) (t : ETrace) (i : Nat) (to : List Int) (p0 : Nat) (is : List Bool) : aRound Tryd.prog oc87 Tryd.f27 peeldo_lv 3000 (lp (bodyOf Tryd.f27) 1) (J2 (.junk :: .c (.ptr 0 0 0 0) :: .c (.ptr 1 0 0 0) :: J2 (.c (.int .i64 (t.2.2.2.1.length : Int)) :: .c (.sl 2 1 0 p0) :: .junk :: .c (.ptr 4 0 0 0) :: J32 (J16 (.junk :: .c (.ro tIns t.2.2.2.1) :: .c (.int .i64 (t.2.2.2.1.length : Int)) :: .c (.int .i64 ((i : Nat) : Int)) :: J32 (J8 (J4 (J2 (.junk :: []))))))))) [.cells 29 (Ty.enc tTrace t), bCy9, .vec 3 tI to, .vec 4 .bool is, .cells 108 [.sl 3 1 0 t.2.2.2.1.length]] = peeldo_l1_R p t i to p0 is := by kernel_rfl
noncomputable def peeldo_r13_R (p : EProg) (t : ETrace) (to : List Int) (p0 : Nat) : Tree :=
  .need ((0 : Int) ≤ (t.2.2.2.1.length : Int) ∧ ((t.2.2.2.1.length : Int) : Int) ≤ (t.2.2.2.1.length : Int) ∧ ((t.2.2.2.1.length : Int) : Int) ≤ 140737488355328 ∧ (1 : Int) * (t.2.2.2.1.length : Int) ≤ 140737488355328) <|
  .stop (lp (bodyOf Tryd.f27) 1) (J2 (.junk :: .c (.ptr 0 0 0 0) :: .c (.ptr 1 0 0 0) :: J2 (.c (.int .i64 (t.2.2.2.1.length : Int)) :: .c (.sl 2 1 0 p0) :: .junk :: .c (.ptr 4 0 0 0) :: J32 (J16 (.junk :: .c (.ro tIns t.2.2.2.1) :: .c (.int .i64 (t.2.2.2.1.length : Int)) :: .c (.int .i64 0) :: J32 (J8 (J4 (J2 (.junk :: []))))))))) [.cells 29 (Ty.enc tTrace t), bCy9, .vec 3 tI to, .vec 4 .bool (List.replicate t.2.2.2.1.length false), .cells 108 [.sl 3 1 0 t.2.2.2.1.length]]
theorem peeldo_r13_R_ok (p : EProg) (t : ETrace) (to : List Int) (p0 : Nat) : aRound Tryd.prog oc87 Tryd.f27 peeldo_lv 3000 (rg (bodyOf Tryd.f27) 13) (J2 (.junk :: .c (.ptr 0 0 0 0) :: .c (.ptr 1 0 0 0) :: J2 (.c (.int .i64 (t.2.2.2.1.length : Int)) :: .c (.sl 2 1 0 p0) :: J32 (J32 (J32 (J4 (.junk :: []))))))) [.cells 29 (Ty.enc tTrace t), bCy9, .vec 3 tI to] = peeldo_r13_R p t to p0 := by kernel_rfl
noncomputable def peeldo_r12_R (p : EProg) (t : ETrace) (to : List Int) (p0 : Nat) : Tree :=
  .need (0 = 0 ∧ p0 = to.length) <|
  .call 22 [.agg (Ty.enc tTrace t), .c (.ro tI to)] false (.tup [.agg [.int .i64 (cutF t to).1.1, .int .i64 (cutF t to).1.2.1, .int .i64 (cutF t to).1.2.2.1, .ro tIns (cutF t to).1.2.2.2.1, .ro tExit (cutF t to).1.2.2.2.2.1, .int .i64 (cutF t to).1.2.2.2.2.2.1.1, .int .i64 (cutF t to).1.2.2.2.2.2.1.2.1, .ro tVal (cutF t to).1.2.2.2.2.2.1.2.2.1, .ro tMake (cutF t to).1.2.2.2.2.2.1.2.2.2, .int .i64 (cutF t to).1.2.2.2.2.2.2.1, .int .i64 (cutF t to).1.2.2.2.2.2.2.2.1, .ro tVal (cutF t to).1.2.2.2.2.2.2.2.2.1, .ro tMake (cutF t to).1.2.2.2.2.2.2.2.2.2], .c (.int .i64 (cutF t to).2)]) <|
  .ret (.tup [.agg [.int .i64 (cutF t to).1.1, .int .i64 (cutF t to).1.2.1, .int .i64 (cutF t to).1.2.2.1, .ro tIns (cutF t to).1.2.2.2.1, .ro tExit (cutF t to).1.2.2.2.2.1, .int .i64 (cutF t to).1.2.2.2.2.2.1.1, .int .i64 (cutF t to).1.2.2.2.2.2.1.2.1, .ro tVal (cutF t to).1.2.2.2.2.2.1.2.2.1, .ro tMake (cutF t to).1.2.2.2.2.2.1.2.2.2, .int .i64 (cutF t to).1.2.2.2.2.2.2.1, .int .i64 (cutF t to).1.2.2.2.2.2.2.2.1, .ro tVal (cutF t to).1.2.2.2.2.2.2.2.2.1, .ro tMake (cutF t to).1.2.2.2.2.2.2.2.2.2], .c (.int .i64 (cutF t to).2)]) [.cells 29 (Ty.enc tTrace t), .cells 29 [.int .i64 (cutF t to).1.1, .int .i64 (cutF t to).1.2.1, .int .i64 (cutF t to).1.2.2.1, .ro tIns (cutF t to).1.2.2.2.1, .ro tExit (cutF t to).1.2.2.2.2.1, .int .i64 (cutF t to).1.2.2.2.2.2.1.1, .int .i64 (cutF t to).1.2.2.2.2.2.1.2.1, .ro tVal (cutF t to).1.2.2.2.2.2.1.2.2.1, .ro tMake (cutF t to).1.2.2.2.2.2.1.2.2.2, .int .i64 (cutF t to).1.2.2.2.2.2.2.1, .int .i64 (cutF t to).1.2.2.2.2.2.2.2.1, .ro tVal (cutF t to).1.2.2.2.2.2.2.2.2.1, .ro tMake (cutF t to).1.2.2.2.2.2.2.2.2.2], .dead]
theorem peeldo_r12_R_ok (p : EProg) (t : ETrace) (to : List Int) (p0 : Nat) : aRound Tryd.prog oc87 Tryd.f27 peeldo_lv 3000 (rg (bodyOf Tryd.f27) 12) (J2 (.junk :: .c (.ptr 0 0 0 0) :: .c (.ptr 1 0 0 0) :: J2 (.junk :: .c (.sl 2 1 0 p0) :: J32 (J32 (J32 (J4 (.junk :: []))))))) [.cells 29 (Ty.enc tTrace t), bCy9, .vec 3 tI to] = peeldo_r12_R p t to p0 := by kernel_rfl
abbrev bCy2 (t : ETrace) (p0 : Nat) (i : Nat) : List AV := (J2 (.junk :: .c (.ptr 0 0 0 0) :: .c (.ptr 1 0 0 0) :: J2 (.c (.int .i64 (t.2.2.2.1.length : Int)) :: .c (.sl 2 1 0 p0) :: J16 (.junk :: .c (.int .i64 (t.2.2.2.1.length : Int)) :: .c (.int .i64 ((i : Nat) : Int)) :: J32 (J32 (J16 (J2 ([]))))))))
noncomputable def peeldo_l0_R (p : EProg) (t : ETrace) (i : Nat) (to : List Int) (p0 : Nat) : Tree :=
  .ite (decide (((i : Nat) : Int) < (t.2.2.2.1.length : Int)))
  (.need (0 = 0 ∧ p0 = to.length) <|
   .need (0 = 0 ∧ 1 = ([((i : Nat) : Int)]).length) <|
   .need ((to.length + ([((i : Nat) : Int)]).length) * 8 ≤ 140737488355328) <|
   .need (inR .i64 (((i : Nat) : Int) + 1)) <|
   .stop (lp (bodyOf Tryd.f27) 0) (J2 (.junk :: .c (.ptr 0 0 0 0) :: .c (.ptr 1 0 0 0) :: J2 (.c (.int .i64 (t.2.2.2.1.length : Int)) :: .c (.sl 4 1 0 (to.length + ([((i : Nat) : Int)]).length)) :: J16 (.junk :: .c (.int .i64 (t.2.2.2.1.length : Int)) :: .c (.int .i64 (((i : Nat) : Int) + 1)) :: J32 (J32 (J16 (J2 ([])))))))) [.cells 29 (Ty.enc tTrace t), bCy9, .dead, .vec 3 tI ([((i : Nat) : Int)]), .vec 3 tI (to ++ [((i : Nat) : Int)])])
  (.ite (decide ((0 : Int) < t.2.2.1))
   (.stop (rg (bodyOf Tryd.f27) 12) (bCy2 t p0 i) [.cells 29 (Ty.enc tTrace t), bCy9, .vec 3 tI to])
   (.ite (decide ((t.2.2.2.1.length : Int) = 0))
    (.stop (rg (bodyOf Tryd.f27) 12) (bCy2 t p0 i) [.cells 29 (Ty.enc tTrace t), bCy9, .vec 3 tI to])
    (.ite (decide ((150 : Int) < (t.2.2.2.1.length : Int)))
     (.stop (rg (bodyOf Tryd.f27) 12) (bCy2 t p0 i) [.cells 29 (Ty.enc tTrace t), bCy9, .vec 3 tI to])
     (.ite (decide ((100 : Int) < (t.2.2.2.2.1.length : Int)))
      (.stop (rg (bodyOf Tryd.f27) 12) (bCy2 t p0 i) [.cells 29 (Ty.enc tTrace t), bCy9, .vec 3 tI to])
      (.stop (rg (bodyOf Tryd.f27) 13) (bCy2 t p0 i) [.cells 29 (Ty.enc tTrace t), bCy9, .vec 3 tI to])))))
theorem peeldo_l0_R_ok (p : EProg) (t : ETrace) (i : Nat) (to : List Int) (p0 : Nat) : aRound Tryd.prog oc87 Tryd.f27 peeldo_lv 3000 (lp (bodyOf Tryd.f27) 0) (bCy2 t p0 i) [.cells 29 (Ty.enc tTrace t), bCy9, .vec 3 tI to] = peeldo_l0_R p t i to p0 := by kernel_rfl
theorem peeldo_r19 (p : EProg) (t : ETrace) (i : Nat) (to : List Int) (p0 : Nat) (is : List Bool) (hc : CheckOk p t) (hp : p0 = to.length) (hl : is.length = t.2.2.2.1.length) (hto : to.length ≤ t.2.2.2.1.length + i) (hi : i < t.2.2.2.1.length) (hn' : ∀ (to' : List Int) (p0' : Nat) (is' : List Bool), p0' = to'.length → is'.length = t.2.2.2.1.length → to'.length ≤ t.2.2.2.1.length + (i + 1) → Run Tryd.prog 27 (retQ Tryd.prog (.tup [.agg (Ty.enc tTrace ((cutF (twF t) (pLoop t (i + 1) (t.2.2.2.1.drop (i + 1)) is' to')).1)), .c (.int .i64 ((cutF (twF t) (pLoop t (i + 1) (t.2.2.2.1.drop (i + 1)) is' to')).2))])) (lp (bodyOf Tryd.f27) 1) (J2 (.junk :: .c (.ptr 0 0 0 0) :: .c (.ptr 1 0 0 0) :: J2 (.c (.int .i64 (t.2.2.2.1.length : Int)) :: .c (.sl 2 1 0 p0') :: .junk :: .c (.ptr 4 0 0 0) :: J32 (J16 (.junk :: .c (.ro tIns t.2.2.2.1) :: .c (.int .i64 (t.2.2.2.1.length : Int)) :: .c (.int .i64 (((i + 1) : Nat) : Int)) :: J32 (J8 (J4 (J2 (.junk :: []))))))))) [.cells 29 (Ty.enc tTrace t), bCy9, .vec 3 tI to', .vec 4 .bool is', .cells 108 [.sl 3 1 0 t.2.2.2.1.length]])  : Run Tryd.prog 27 (retQ Tryd.prog (.tup [.agg (Ty.enc tTrace ((cutF (twF t) (pLoop t (i + 1) (t.2.2.2.1.drop (i + 1)) is (to ++ [pTo (t.2.2.2.1.length : Int) i (is.getD (0 + i) (Ty.dflt .bool)) (t.2.2.2.1.getD i tIns.dflt)]))).1)), .c (.int .i64 ((cutF (twF t) (pLoop t (i + 1) (t.2.2.2.1.drop (i + 1)) is (to ++ [pTo (t.2.2.2.1.length : Int) i (is.getD (0 + i) (Ty.dflt .bool)) (t.2.2.2.1.getD i tIns.dflt)]))).2))])) (rg (bodyOf Tryd.f27) 19) (bCy1 t p0 i) [.cells 29 (Ty.enc tTrace t), bCy9, .vec 3 tI to, .vec 4 .bool is, .cells 108 [.sl 3 1 0 t.2.2.2.1.length], (bCy0 t i)] :=
  Run.roundA oc87 peeldo_lv 3000 Tryd.func27 mixed (peeldo_r19_R p t i to p0 is) (peeldo_r19_R_ok p t i to p0 is) (by
    unfold peeldo_r19_R
    refine g_need (by omega) ?_
    refine g_need (by omega) ?_
    refine g_iteN (fun h0 => ?_) (fun h0 => ?_)
    · refine g_need (by first | omega | exact ⟨rfl, hp⟩ | (have := hc.n; have := hc.m; (try simp only [List.length_cons, List.length_nil]); first | omega | (rw [i64_iff]; omega)) | (constructor <;> first | omega | rfl) | rfl | (simp; done)) ?_
      refine g_need (by first | omega | exact ⟨rfl, hp⟩ | (have := hc.n; have := hc.m; (try simp only [List.length_cons, List.length_nil]); first | omega | (rw [i64_iff]; omega)) | (constructor <;> first | omega | rfl) | rfl | (simp; done)) ?_
      refine g_need (⟨rfl, rfl⟩) ?_
      refine g_need (by first | omega | exact ⟨rfl, hp⟩ | (have := hc.n; have := hc.m; (try simp only [List.length_cons, List.length_nil]); first | omega | (rw [i64_iff]; omega)) | (constructor <;> first | omega | rfl) | rfl | (simp; done)) ?_
      refine g_need (by first | omega | exact ⟨rfl, hp⟩ | (have := hc.n; have := hc.m; (try simp only [List.length_cons, List.length_nil]); first | omega | (rw [i64_iff]; omega)) | (constructor <;> first | omega | rfl) | rfl | (simp; done)) ?_
      refine g_stop (RunN.keep [0, 1, 7, 3, 4] (F2 (false :: true :: true :: F2 (true :: true :: false :: true :: F32 (F16 (false :: true :: true :: true :: F32 (F8 (F4 (F2 (false :: []))))))))) n0 (by decide) rfl rfl ?_)
      have ht := hn' (to ++ [((t.2.2.2.1.length : Int) + ((i : Nat) : Int))]) (to.length + ([((t.2.2.2.1.length : Int) + ((i : Nat) : Int))]).length) is (by simp) hl (by simp; omega); (first | rw [show pTo (t.2.2.2.1.length : Int) i (is.getD (0 + i) (Ty.dflt .bool)) (t.2.2.2.1.getD i tIns.dflt) = _ from (by unfold pTo; rw [if_neg (by rw [h0]; decide)])] | rw [show pTo (t.2.2.2.1.length : Int) i (is.getD (0 + i) (Ty.dflt .bool)) (t.2.2.2.1.getD i tIns.dflt) = _ from (by unfold pTo; rw [if_pos h0, if_pos h1])] | rw [show pTo (t.2.2.2.1.length : Int) i (is.getD (0 + i) (Ty.dflt .bool)) (t.2.2.2.1.getD i tIns.dflt) = _ from (by unfold pTo; rw [if_pos h0, if_neg (by rw [h1]; decide)])]); exact ht
    · refine g_call (tells_fun (t.2.2.2.1.getD i tIns.dflt).1) (fun h => nomatch h) ?_
      refine g_ite (fun h1 => ?_) (fun h1 => ?_)
      · refine g_need (by first | omega | exact ⟨rfl, hp⟩ | (have := hc.n; have := hc.m; (try simp only [List.length_cons, List.length_nil]); first | omega | (rw [i64_iff]; omega)) | (constructor <;> first | omega | rfl) | rfl | (simp; done)) ?_
        refine g_need (⟨rfl, rfl⟩) ?_
        refine g_need (by first | omega | exact ⟨rfl, hp⟩ | (have := hc.n; have := hc.m; (try simp only [List.length_cons, List.length_nil]); first | omega | (rw [i64_iff]; omega)) | (constructor <;> first | omega | rfl) | rfl | (simp; done)) ?_
        refine g_need (by first | omega | exact ⟨rfl, hp⟩ | (have := hc.n; have := hc.m; (try simp only [List.length_cons, List.length_nil]); first | omega | (rw [i64_iff]; omega)) | (constructor <;> first | omega | rfl) | rfl | (simp; done)) ?_
        refine g_stop (RunN.keep [0, 1, 7, 3, 4] (F2 (false :: true :: true :: F2 (true :: true :: false :: true :: F32 (F16 (false :: true :: true :: true :: F32 (F8 (F4 (F2 (false :: []))))))))) n0 (by decide) rfl rfl ?_)
        have ht := hn' (to ++ [((i : Nat) : Int)]) (to.length + ([((i : Nat) : Int)]).length) is (by simp) hl (by simp; omega); (first | rw [show pTo (t.2.2.2.1.length : Int) i (is.getD (0 + i) (Ty.dflt .bool)) (t.2.2.2.1.getD i tIns.dflt) = _ from (by unfold pTo; rw [if_neg (by rw [h0]; decide)])] | rw [show pTo (t.2.2.2.1.length : Int) i (is.getD (0 + i) (Ty.dflt .bool)) (t.2.2.2.1.getD i tIns.dflt) = _ from (by unfold pTo; rw [if_pos h0, if_pos h1])] | rw [show pTo (t.2.2.2.1.length : Int) i (is.getD (0 + i) (Ty.dflt .bool)) (t.2.2.2.1.getD i tIns.dflt) = _ from (by unfold pTo; rw [if_pos h0, if_neg (by rw [h1]; decide)])]); exact ht
      · refine g_need (by first | omega | exact ⟨rfl, hp⟩ | (have := hc.n; have := hc.m; (try simp only [List.length_cons, List.length_nil]); first | omega | (rw [i64_iff]; omega)) | (constructor <;> first | omega | rfl) | rfl | (simp; done)) ?_
        refine g_need (⟨rfl, rfl⟩) ?_
        refine g_need (by first | omega | exact ⟨rfl, hp⟩ | (have := hc.n; have := hc.m; (try simp only [List.length_cons, List.length_nil]); first | omega | (rw [i64_iff]; omega)) | (constructor <;> first | omega | rfl) | rfl | (simp; done)) ?_
        refine g_need (by first | omega | exact ⟨rfl, hp⟩ | (have := hc.n; have := hc.m; (try simp only [List.length_cons, List.length_nil]); first | omega | (rw [i64_iff]; omega)) | (constructor <;> first | omega | rfl) | rfl | (simp; done)) ?_
        refine g_stop (RunN.keep [0, 1, 7, 3, 4] (F2 (false :: true :: true :: F2 (true :: true :: false :: true :: F32 (F16 (false :: true :: true :: true :: F32 (F8 (F4 (F2 (false :: []))))))))) n0 (by decide) rfl rfl ?_)
        have ht := hn' (to ++ [(-1)]) (to.length + ([(-1)]).length) is (by simp) hl (by simp; omega); (first | rw [show pTo (t.2.2.2.1.length : Int) i (is.getD (0 + i) (Ty.dflt .bool)) (t.2.2.2.1.getD i tIns.dflt) = _ from (by unfold pTo; rw [if_neg (by rw [h0]; decide)])] | rw [show pTo (t.2.2.2.1.length : Int) i (is.getD (0 + i) (Ty.dflt .bool)) (t.2.2.2.1.getD i tIns.dflt) = _ from (by unfold pTo; rw [if_pos h0, if_pos h1])] | rw [show pTo (t.2.2.2.1.length : Int) i (is.getD (0 + i) (Ty.dflt .bool)) (t.2.2.2.1.getD i tIns.dflt) = _ from (by unfold pTo; rw [if_pos h0, if_neg (by rw [h1]; decide)])]); exact ht
    )
theorem peeldo_l1 (p : EProg) (t : ETrace) (i : Nat) (to : List Int) (p0 : Nat) (is : List Bool) (hc : CheckOk p t) (hp : p0 = to.length) (hl : is.length = t.2.2.2.1.length) (hto : to.length ≤ t.2.2.2.1.length + i)  : Run Tryd.prog 27 (retQ Tryd.prog (.tup [.agg (Ty.enc tTrace ((cutF (twF t) (pLoop t i (t.2.2.2.1.drop i) is to)).1)), .c (.int .i64 ((cutF (twF t) (pLoop t i (t.2.2.2.1.drop i) is to)).2))])) (lp (bodyOf Tryd.f27) 1) (J2 (.junk :: .c (.ptr 0 0 0 0) :: .c (.ptr 1 0 0 0) :: J2 (.c (.int .i64 (t.2.2.2.1.length : Int)) :: .c (.sl 2 1 0 p0) :: .junk :: .c (.ptr 4 0 0 0) :: J32 (J16 (.junk :: .c (.ro tIns t.2.2.2.1) :: .c (.int .i64 (t.2.2.2.1.length : Int)) :: .c (.int .i64 ((i : Nat) : Int)) :: J32 (J8 (J4 (J2 (.junk :: []))))))))) [.cells 29 (Ty.enc tTrace t), bCy9, .vec 3 tI to, .vec 4 .bool is, .cells 108 [.sl 3 1 0 t.2.2.2.1.length]] :=
  Run.roundA oc87 peeldo_lv 3000 Tryd.func27 mixed (peeldo_l1_R p t i to p0 is) (peeldo_l1_R_ok p t i to p0 is) (by
    unfold peeldo_l1_R
    refine g_iteD (fun h0 => ?_) (fun h0 => ?_)
    · refine g_need (by omega) ?_
      refine g_need (by omega) ?_
      refine g_call (firm_fun t (t.2.2.2.1.getD i tIns.dflt)) (fun h => nomatch h) ?_
      refine g_ite (fun h1 => ?_) (fun h1 => ?_)
      · refine g_call (asks_fun (t.2.2.2.1.getD i tIns.dflt)) (fun h => nomatch h) ?_
        refine g_callH (AFunH.ofPro (b0 := 4) (b1 := 3) (pCon_fun (askF (t.2.2.2.1.getD i tIns.dflt)) is (ask_bnd hc (by omega) hl)) rfl rfl rfl (hl.symm)) ?_
        refine g_need (by omega) ?_
        refine g_need (by omega) ?_
        refine g_stop (RunN.keep [0, 1, 2, 3, 4, 5] (F2 (false :: true :: true :: F2 (true :: true :: false :: true :: true :: true :: F32 (F8 (F4 (F2 (false :: true :: true :: true :: F32 (F8 (F4 (F2 (false :: []))))))))))) n0 (by decide) rfl rfl ?_)
        have ht := peeldo_r19 p t i to p0 (is.set (0 + i) (!(List.any (askF (t.2.2.2.1.getD i tIns.dflt)) (notQ is)))) hc hp (by rw [List.length_set]; exact hl) hto (by omega) (fun to' p0' is' q1 q2 q3 => peeldo_l1 p t (i + 1) to' p0' is' hc q1 q2 q3); have e1 : pSt t is (t.2.2.2.1.getD i tIns.dflt) = (!(List.any (askF (t.2.2.2.1.getD i tIns.dflt)) (notQ is))) := (by unfold pSt; rw [h1]; rfl); rw [getD_set (by omega : 0 + i < is.length)] at ht; rw [dropCons (α := EIns) (Ty.dflt tIns) (by omega : i < t.2.2.2.1.length), pLoop, e1, show is.set i (!(List.any (askF (t.2.2.2.1.getD i tIns.dflt)) (notQ is))) = is.set (0 + i) (!(List.any (askF (t.2.2.2.1.getD i tIns.dflt)) (notQ is))) from by rw [Nat.zero_add]]; exact ht
      · refine g_need (by omega) ?_
        refine g_need (by omega) ?_
        refine g_stop (RunN.keep [0, 1, 2, 3, 4, 5] (F2 (false :: true :: true :: F2 (true :: true :: false :: true :: true :: true :: F32 (F8 (F4 (F2 (false :: true :: true :: true :: F32 (F8 (F4 (F2 (false :: []))))))))))) n0 (by decide) rfl rfl ?_)
        have ht := peeldo_r19 p t i to p0 (is.set (0 + i) false) hc hp (by rw [List.length_set]; exact hl) hto (by omega) (fun to' p0' is' q1 q2 q3 => peeldo_l1 p t (i + 1) to' p0' is' hc q1 q2 q3); have e1 : pSt t is (t.2.2.2.1.getD i tIns.dflt) = false := (by unfold pSt; rw [h1]; rfl); rw [getD_set (by omega : 0 + i < is.length)] at ht; rw [dropCons (α := EIns) (Ty.dflt tIns) (by omega : i < t.2.2.2.1.length), pLoop, e1, show is.set i false = is.set (0 + i) false from by rw [Nat.zero_add]]; exact ht
    · refine g_call (twice_fun t hc) (fun h => nomatch h) ?_
      refine g_need (by first | (rw [hl]; omega) | omega | exact ⟨rfl, hp⟩ | (have := hc.n; have := hc.m; (try simp only [List.length_cons, List.length_nil]); first | omega | (rw [i64_iff]; omega)) | (constructor <;> first | omega | rfl) | rfl | (simp; done)) ?_
      refine g_call (cut_fun (twF t) to (by first | exact hc.small | exact tw_small hc)) (fun h => nomatch h) ?_
      refine g_rq ?_
      exact g_rl (⟨⟨⟨rfl, (show ((cutF (twF t) to).1.1 : Int) = (cutF (twF t) (pLoop t i (t.2.2.2.1.drop i) is to)).1.1 from by rw [List.drop_eq_nil_of_le (by omega)]; rfl)⟩, ⟨rfl, (show ((cutF (twF t) to).1.2.1 : Int) = (cutF (twF t) (pLoop t i (t.2.2.2.1.drop i) is to)).1.2.1 from by rw [List.drop_eq_nil_of_le (by omega)]; rfl)⟩, ⟨rfl, (show ((cutF (twF t) to).1.2.2.1 : Int) = (cutF (twF t) (pLoop t i (t.2.2.2.1.drop i) is to)).1.2.2.1 from by rw [List.drop_eq_nil_of_le (by omega)]; rfl)⟩, ⟨rfl, (show ((cutF (twF t) to).1.2.2.2.1) = (cutF (twF t) (pLoop t i (t.2.2.2.1.drop i) is to)).1.2.2.2.1 from by rw [List.drop_eq_nil_of_le (by omega)]; rfl)⟩, ⟨rfl, (show ((cutF (twF t) to).1.2.2.2.2.1) = (cutF (twF t) (pLoop t i (t.2.2.2.1.drop i) is to)).1.2.2.2.2.1 from by rw [List.drop_eq_nil_of_le (by omega)]; rfl)⟩, ⟨rfl, (show ((cutF (twF t) to).1.2.2.2.2.2.1.1 : Int) = (cutF (twF t) (pLoop t i (t.2.2.2.1.drop i) is to)).1.2.2.2.2.2.1.1 from by rw [List.drop_eq_nil_of_le (by omega)]; rfl)⟩, ⟨rfl, (show ((cutF (twF t) to).1.2.2.2.2.2.1.2.1 : Int) = (cutF (twF t) (pLoop t i (t.2.2.2.1.drop i) is to)).1.2.2.2.2.2.1.2.1 from by rw [List.drop_eq_nil_of_le (by omega)]; rfl)⟩, ⟨rfl, (show ((cutF (twF t) to).1.2.2.2.2.2.1.2.2.1) = (cutF (twF t) (pLoop t i (t.2.2.2.1.drop i) is to)).1.2.2.2.2.2.1.2.2.1 from by rw [List.drop_eq_nil_of_le (by omega)]; rfl)⟩, ⟨rfl, (show ((cutF (twF t) to).1.2.2.2.2.2.1.2.2.2) = (cutF (twF t) (pLoop t i (t.2.2.2.1.drop i) is to)).1.2.2.2.2.2.1.2.2.2 from by rw [List.drop_eq_nil_of_le (by omega)]; rfl)⟩, ⟨rfl, (show ((cutF (twF t) to).1.2.2.2.2.2.2.1 : Int) = (cutF (twF t) (pLoop t i (t.2.2.2.1.drop i) is to)).1.2.2.2.2.2.2.1 from by rw [List.drop_eq_nil_of_le (by omega)]; rfl)⟩, ⟨rfl, (show ((cutF (twF t) to).1.2.2.2.2.2.2.2.1 : Int) = (cutF (twF t) (pLoop t i (t.2.2.2.1.drop i) is to)).1.2.2.2.2.2.2.2.1 from by rw [List.drop_eq_nil_of_le (by omega)]; rfl)⟩, ⟨rfl, (show ((cutF (twF t) to).1.2.2.2.2.2.2.2.2.1) = (cutF (twF t) (pLoop t i (t.2.2.2.1.drop i) is to)).1.2.2.2.2.2.2.2.2.1 from by rw [List.drop_eq_nil_of_le (by omega)]; rfl)⟩, ⟨rfl, (show ((cutF (twF t) to).1.2.2.2.2.2.2.2.2.2) = (cutF (twF t) (pLoop t i (t.2.2.2.1.drop i) is to)).1.2.2.2.2.2.2.2.2.2 from by rw [List.drop_eq_nil_of_le (by omega)]; rfl)⟩, trivial⟩, ⟨rfl, (show ((cutF (twF t) to).2 : Int) = (cutF (twF t) (pLoop t i (t.2.2.2.1.drop i) is to)).2 from by rw [List.drop_eq_nil_of_le (by omega)]; rfl)⟩, trivial⟩) rfl
    )
  termination_by t.2.2.2.1.length - i
  decreasing_by all_goals omega
theorem peeldo_r13 (p : EProg) (t : ETrace) (to : List Int) (p0 : Nat) (hc : CheckOk p t) (hp : p0 = to.length) (hto : to.length ≤ t.2.2.2.1.length)  : Run Tryd.prog 27 (retQ Tryd.prog (.tup [.agg (Ty.enc tTrace ((cutF (twF t) (pLoop t 0 t.2.2.2.1 (List.replicate t.2.2.2.1.length false) to)).1)), .c (.int .i64 ((cutF (twF t) (pLoop t 0 t.2.2.2.1 (List.replicate t.2.2.2.1.length false) to)).2))])) (rg (bodyOf Tryd.f27) 13) (J2 (.junk :: .c (.ptr 0 0 0 0) :: .c (.ptr 1 0 0 0) :: J2 (.c (.int .i64 (t.2.2.2.1.length : Int)) :: .c (.sl 2 1 0 p0) :: J32 (J32 (J32 (J4 (.junk :: []))))))) [.cells 29 (Ty.enc tTrace t), bCy9, .vec 3 tI to] :=
  Run.roundA oc87 peeldo_lv 3000 Tryd.func27 mixed (peeldo_r13_R p t to p0) (peeldo_r13_R_ok p t to p0) (by
    unfold peeldo_r13_R
    refine g_need (by first | omega | exact ⟨rfl, hp⟩ | (have := hc.n; have := hc.m; (try simp only [List.length_cons, List.length_nil]); first | omega | (rw [i64_iff]; omega)) | (constructor <;> first | omega | rfl) | rfl | (simp; done)) ?_
    refine g_stop (RunN.keep [0, 1, 2, 3, 4] (F2 (false :: true :: true :: F2 (true :: true :: false :: true :: F32 (F16 (false :: true :: true :: true :: F32 (F8 (F4 (F2 (false :: []))))))))) n0 (by decide) rfl rfl ?_)
    exact peeldo_l1 p t 0 to p0 (List.replicate t.2.2.2.1.length false) hc hp (by rw [List.length_replicate]) (by omega)
    )
theorem peeldo_r12 (p : EProg) (t : ETrace) (to : List Int) (p0 : Nat) (hc : CheckOk p t) (hp : p0 = to.length)  : Run Tryd.prog 27 (retQ Tryd.prog (.tup [.agg (Ty.enc tTrace ((cutF t to).1)), .c (.int .i64 ((cutF t to).2))])) (rg (bodyOf Tryd.f27) 12) (J2 (.junk :: .c (.ptr 0 0 0 0) :: .c (.ptr 1 0 0 0) :: J2 (.junk :: .c (.sl 2 1 0 p0) :: J32 (J32 (J32 (J4 (.junk :: []))))))) [.cells 29 (Ty.enc tTrace t), bCy9, .vec 3 tI to] :=
  Run.roundA oc87 peeldo_lv 3000 Tryd.func27 mixed (peeldo_r12_R p t to p0) (peeldo_r12_R_ok p t to p0) (by
    unfold peeldo_r12_R
    refine g_need (by first | omega | exact ⟨rfl, hp⟩ | (have := hc.n; have := hc.m; (try simp only [List.length_cons, List.length_nil]); first | omega | (rw [i64_iff]; omega)) | (constructor <;> first | omega | rfl) | rfl | (simp; done)) ?_
    refine g_call (cut_fun t to (by first | exact hc.small | exact tw_small hc)) (fun h => nomatch h) ?_
    refine g_rq ?_
    exact g_rl (leAV.refl _) rfl
    )
theorem peeldo_l0 (p : EProg) (t : ETrace) (i : Nat) (to : List Int) (p0 : Nat) (hc : CheckOk p t) (hp : p0 = to.length) (ha : to = iota i) (hi : i ≤ t.2.2.2.1.length)  : Run Tryd.prog 27 (retQ Tryd.prog (.tup [.agg (Ty.enc tTrace ((peelR t).1)), .c (.int .i64 ((peelR t).2))])) (lp (bodyOf Tryd.f27) 0) (bCy2 t p0 i) [.cells 29 (Ty.enc tTrace t), bCy9, .vec 3 tI to] :=
  Run.roundA oc87 peeldo_lv 3000 Tryd.func27 mixed (peeldo_l0_R p t i to p0) (peeldo_l0_R_ok p t i to p0) (by
    unfold peeldo_l0_R
    refine g_iteD (fun h0 => ?_) (fun h0 => ?_)
    · refine g_need (by first | (rw [ha, iota_len]; have := hc.n; simp; omega) | omega | exact ⟨rfl, hp⟩ | (have := hc.n; have := hc.m; (try simp only [List.length_cons, List.length_nil]); first | omega | (rw [i64_iff]; omega)) | (constructor <;> first | omega | rfl) | rfl | (simp; done)) ?_
      refine g_need (⟨rfl, rfl⟩) ?_
      refine g_need (by first | (rw [ha, iota_len]; have := hc.n; simp; omega) | omega | exact ⟨rfl, hp⟩ | (have := hc.n; have := hc.m; (try simp only [List.length_cons, List.length_nil]); first | omega | (rw [i64_iff]; omega)) | (constructor <;> first | omega | rfl) | rfl | (simp; done)) ?_
      refine g_need (by first | (rw [ha, iota_len]; have := hc.n; simp; omega) | omega | exact ⟨rfl, hp⟩ | (have := hc.n; have := hc.m; (try simp only [List.length_cons, List.length_nil]); first | omega | (rw [i64_iff]; omega)) | (constructor <;> first | omega | rfl) | rfl | (simp; done)) ?_
      refine g_stop (RunN.keep [0, 1, 4] (F2 (false :: true :: true :: F2 (true :: true :: F16 (false :: true :: true :: F32 (F32 (F16 (F2 ([])))))))) n0 (by decide) rfl rfl ?_)
      exact peeldo_l0 p t (i + 1) (to ++ [((i : Nat) : Int)]) (to.length + ([((i : Nat) : Int)]).length) hc (by simp [hp]) (by rw [ha, iota_succ]) (by omega)
    · refine g_iteD (fun h1 => ?_) (fun h1 => ?_)
      · refine g_stop (RunN.keep [0, 1, 2] (F2 (false :: true :: true :: F2 (false :: true :: F32 (F32 (F32 (F4 (false :: []))))))) n0 (by decide) rfl rfl ?_)
        have e : i = t.2.2.2.1.length := (by omega); have ha2 : to = iota t.2.2.2.1.length := (by rw [ha, e]); have ht := peeldo_r12 p t to p0 hc hp; rw [peelR, if_pos (by omega), ← ha2]; exact ht
      · refine g_iteD (fun h2 => ?_) (fun h2 => ?_)
        · refine g_stop (RunN.keep [0, 1, 2] (F2 (false :: true :: true :: F2 (false :: true :: F32 (F32 (F32 (F4 (false :: []))))))) n0 (by decide) rfl rfl ?_)
          have e : i = t.2.2.2.1.length := (by omega); have ha2 : to = iota t.2.2.2.1.length := (by rw [ha, e]); have ht := peeldo_r12 p t to p0 hc hp; rw [peelR, if_pos (by omega), ← ha2]; exact ht
        · refine g_iteD (fun h3 => ?_) (fun h3 => ?_)
          · refine g_stop (RunN.keep [0, 1, 2] (F2 (false :: true :: true :: F2 (false :: true :: F32 (F32 (F32 (F4 (false :: []))))))) n0 (by decide) rfl rfl ?_)
            have e : i = t.2.2.2.1.length := (by omega); have ha2 : to = iota t.2.2.2.1.length := (by rw [ha, e]); have ht := peeldo_r12 p t to p0 hc hp; rw [peelR, if_pos (by omega), ← ha2]; exact ht
          · refine g_iteD (fun h4 => ?_) (fun h4 => ?_)
            · refine g_stop (RunN.keep [0, 1, 2] (F2 (false :: true :: true :: F2 (false :: true :: F32 (F32 (F32 (F4 (false :: []))))))) n0 (by decide) rfl rfl ?_)
              have e : i = t.2.2.2.1.length := (by omega); have ha2 : to = iota t.2.2.2.1.length := (by rw [ha, e]); have ht := peeldo_r12 p t to p0 hc hp; rw [peelR, if_pos (by omega), ← ha2]; exact ht
            · refine g_stop (RunN.keep [0, 1, 2] (F2 (false :: true :: true :: F2 (true :: true :: F32 (F32 (F32 (F4 (false :: []))))))) n0 (by decide) rfl rfl ?_)
              have e : i = t.2.2.2.1.length := (by omega); have ha2 : to = iota t.2.2.2.1.length := (by rw [ha, e]); have ht := peeldo_r13 p t to p0 hc hp (by rw [ha2, iota_len]; omega); rw [peelR, if_neg (by omega), peelTo, ← ha2]; exact ht
    )
  termination_by t.2.2.2.1.length - i
  decreasing_by all_goals omega
theorem peeldo_fun (p : EProg) (t : ETrace) : AFun Tryd.prog 27 [.agg (tProg.enc p), .agg (tTrace.enc t)] (.tup [.agg (Ty.enc tTrace ((peelDo p t).1)), .c (.int .i64 ((peelDo p t).2))]) :=
  AFun.of oc87 peeldo_lv 3000 Tryd.func27 mixed rfl (by decide) (Nat.le_of_ble_eq_true rfl) _ (peeldo_T_ok p t) fun hF => by
    unfold peeldo_T
    refine g_call (check_fun p t) (fun h => nomatch h) ?_
    refine g_iteND (fun h0 => ?_) (fun h0 => ?_)
    · rw [peelDo, if_neg (by assumption)]
      refine g_rq ?_
      exact g_rl (⟨⟨⟨rfl, rfl⟩, ⟨rfl, rfl⟩, ⟨rfl, rfl⟩, rfl, rfl, ⟨rfl, rfl⟩, ⟨rfl, rfl⟩, rfl, rfl, ⟨rfl, rfl⟩, ⟨rfl, rfl⟩, rfl, rfl, trivial⟩, ⟨rfl, rfl⟩, trivial⟩) rfl
    · refine g_need (by first | (have hc := check_iff.1 h0; have := hc.n; omega) | (have hc := check_iff.1 h0; have := hc.n; rw [i64_iff]; omega) | (have hc := check_iff.1 h0; have := hc.n; constructor <;> omega) |omega | exact ⟨rfl, hp⟩ | (have := hc.n; have := hc.m; (try simp only [List.length_cons, List.length_nil]); first | omega | (rw [i64_iff]; omega)) | (constructor <;> first | omega | rfl) | rfl | (simp; done)) ?_
      refine g_need (by first | (have hc := check_iff.1 h0; have := hc.n; omega) | (have hc := check_iff.1 h0; have := hc.n; rw [i64_iff]; omega) | (have hc := check_iff.1 h0; have := hc.n; constructor <;> omega) |omega | exact ⟨rfl, hp⟩ | (have := hc.n; have := hc.m; (try simp only [List.length_cons, List.length_nil]); first | omega | (rw [i64_iff]; omega)) | (constructor <;> first | omega | rfl) | rfl | (simp; done)) ?_
      refine g_stop (RunN.keep [1, 2, 3] (F2 (false :: true :: true :: F2 (true :: true :: F16 (false :: true :: true :: F32 (F32 (F16 (F2 ([])))))))) n0 (by decide) rfl rfl ?_)
      have hc := check_iff.1 h0; have ht := peeldo_l0 p t 0 (List.replicate 0 0) 0 hc rfl rfl (by omega); rw [peelDo, if_pos h0]; exact ht

end Go.Proofs.YtefkifdhjabdiaaDoor
namespace Go.Proofs.YtefkifdhjabdiaaDoor
set_option maxHeartbeats 4000000
set_option linter.unusedVariables false
set_option linter.unusedSimpArgs false
set_option maxRecDepth 100000
def dP {α β : Type} (a : DecidableEq α) (b : DecidableEq β) : DecidableEq (α × β) := @instDecidableEqProd α β a b
def dI : DecidableEq Int := inferInstance
def dL {α : Type} (a : DecidableEq α) : DecidableEq (List α) := @instDecidableEqList α a
instance decVal : DecidableEq EVal := dP dI dI
instance decIns : DecidableEq EIns := dP dI (dP dI (dP dI (dP dI (dP dI (dP dI decVal)))))
instance decMake : DecidableEq EMake := dP dI (dP dI (dP dI (dL dI)))
instance decExit : DecidableEq EExit := dP dI (dP dI (dP (dL decVal) (dL decMake)))
instance decTrace : DecidableEq ETrace := dP dI (dP dI (dP dI (dP (dL decIns) (dP (dL decExit) (dP decExit decExit)))))
theorem drop_eqD {α : Type} (d : α) {a b : List α} {i : Nat} (hl : a.length = b.length) (hi : i < a.length) : (a.drop i = b.drop i) ↔ (a.getD i d = b.getD i d ∧ a.drop (i + 1) = b.drop (i + 1)) := by
  rw [dropCons (l := a) d hi, dropCons (l := b) d (by omega), List.cons.injEq]
theorem dec_and {p q r : Prop} [Decidable p] [Decidable q] [Decidable r] (h : p ↔ q ∧ r) : decide p = (decide q && decide r) := by
  rw [Bool.eq_iff_iff]; simp [h]
def restFm (n m : Int) : Int := if n.tmod m < 0 then n.tmod m + m else n.tmod m
theorem restFm_ok {n m : Int} (hm : 0 < m) : 0 ≤ restFm n m ∧ restFm n m < m := by
  unfold restFm
  have h1 := Int.tmod_lt_of_pos n hm
  have h2 : -m < n.tmod m := by
    have := Int.lt_tmod_of_pos n hm
    exact this
  split <;> omega
def rest_lv : LV := ⟨([]), []⟩
noncomputable def rest_T (n : Int) (m : Int) : Tree :=
  .need (m ≠ 0) <|
  .need (inR .i64 (Int.tmod n m)) <|
  .ite (decide ((Int.tmod n m) < 0))
  (.need (inR .i64 ((Int.tmod n m) + m)) <|
   .ret (.c (.int .i64 ((Int.tmod n m) + m))) [])
  (.ret (.c (.int .i64 (Int.tmod n m))) [])
theorem rest_T_ok (n : Int) (m : Int) : aRun Tryd.prog oc0 Tryd.f20 rest_lv 3000 [.code (bodyOf Tryd.f20)] ([.c (.int .i64 n), .c (.int .i64 m)] ++ List.replicate (Func.ntmps Tryd.f20 - 2) .junk) [] = rest_T n m := by kernel_rfl
theorem rest_fun (n : Int) (m : Int) (hm : 0 < m) : AFun Tryd.prog 20 [.c (.int .i64 n), .c (.int .i64 m)] (.c (.int .i64 (restFm n m))) :=
  AFun.of oc0 rest_lv 3000 Tryd.func20 mixed rfl (by decide) (Nat.le_of_ble_eq_true rfl) _ (rest_T_ok n m) fun hF => by
    have hb := hF.int.1
    have hb2 := hF.int.2.int.1
    rw [i64_iff] at hb hb2
    have t1 := Int.tmod_lt_of_pos n hm
    have t2 := Int.lt_tmod_of_pos n hm
    unfold rest_T
    refine g_need (by first | omega | (rw [i64_iff]; omega) | (rw [i64_iff]; constructor <;> omega)) ?_
    refine g_need (by first | omega | (rw [i64_iff]; omega) | (rw [i64_iff]; constructor <;> omega)) ?_
    refine g_iteD (fun h0 => ?_) (fun h0 => ?_)
    · refine g_need (by first | omega | (rw [i64_iff]; omega) | (rw [i64_iff]; constructor <;> omega)) ?_
      exact g_reti (by simp only [restFm, h0, if_true, if_false])
    · exact g_reti (by simp only [restFm, h0, if_true, if_false])

def eqIns_lv : LV := ⟨(false :: true :: F8 (F2 (true :: true :: true :: F8 (F2 (false :: []))))), []⟩
noncomputable def eqIns_T (a : List EIns) (b : List EIns) : Tree :=
  .ite ((!(decide ((a.length : Int) = (b.length : Int)))))
  (.ret (.c (.lit false)) [])
  (.stop (lp (bodyOf Tryd.f28) 0) (.junk :: .c (.ro tIns b) :: J8 (J2 (.c (.ro tIns a) :: .c (.int .i64 (a.length : Int)) :: .c (.int .i64 0) :: J8 (J2 (.junk :: []))))) [])
theorem eqIns_T_ok (a : List EIns) (b : List EIns) : aRun Tryd.prog oc0 Tryd.f28 eqIns_lv 3000 [.code (bodyOf Tryd.f28)] ([.c (.ro tIns a), .c (.ro tIns b)] ++ List.replicate (Func.ntmps Tryd.f28 - 2) .junk) [] = eqIns_T a b := by kernel_rfl
noncomputable def eqIns_l0_R (a : List EIns) (b : List EIns) (i : Nat) : Tree :=
  .ite (decide (((i : Nat) : Int) < (a.length : Int)))
  (.need ((0 : Int) ≤ ((i : Nat) : Int) ∧ (((i : Nat) : Int) : Int) < (a.length : Int)) <|
   .need (i < a.length) <|
   .need ((0 : Int) ≤ ((i : Nat) : Int) ∧ (((i : Nat) : Int) : Int) < (b.length : Int)) <|
   .need (i < b.length) <|
   .ite ((!(decide ((a.getD i tIns.dflt).1 = (b.getD i tIns.dflt).1) && (decide ((a.getD i tIns.dflt).2.1 = (b.getD i tIns.dflt).2.1) && (decide ((a.getD i tIns.dflt).2.2.1 = (b.getD i tIns.dflt).2.2.1) && (decide ((a.getD i tIns.dflt).2.2.2.1 = (b.getD i tIns.dflt).2.2.2.1) && (decide ((a.getD i tIns.dflt).2.2.2.2.1 = (b.getD i tIns.dflt).2.2.2.2.1) && (decide ((a.getD i tIns.dflt).2.2.2.2.2.1 = (b.getD i tIns.dflt).2.2.2.2.2.1) && ((decide ((a.getD i tIns.dflt).2.2.2.2.2.2.1 = (b.getD i tIns.dflt).2.2.2.2.2.2.1) && (decide ((a.getD i tIns.dflt).2.2.2.2.2.2.2 = (b.getD i tIns.dflt).2.2.2.2.2.2.2) && true)) && true)))))))))
   (.ret (.c (.lit false)) [.cells 46 [.int .i64 (a.getD i tIns.dflt).1, .int .i64 (a.getD i tIns.dflt).2.1, .int .i64 (a.getD i tIns.dflt).2.2.1, .int .i64 (a.getD i tIns.dflt).2.2.2.1, .int .i64 (a.getD i tIns.dflt).2.2.2.2.1, .int .i64 (a.getD i tIns.dflt).2.2.2.2.2.1, .int .i64 (a.getD i tIns.dflt).2.2.2.2.2.2.1, .int .i64 (a.getD i tIns.dflt).2.2.2.2.2.2.2]])
   (.need (inR .i64 (((i : Nat) : Int) + 1)) <|
    .stop (lp (bodyOf Tryd.f28) 0) (.junk :: .c (.ro tIns b) :: J8 (J2 (.c (.ro tIns a) :: .c (.int .i64 (a.length : Int)) :: .c (.int .i64 (((i : Nat) : Int) + 1)) :: J8 (J2 (.junk :: []))))) [.cells 46 [.int .i64 (a.getD i tIns.dflt).1, .int .i64 (a.getD i tIns.dflt).2.1, .int .i64 (a.getD i tIns.dflt).2.2.1, .int .i64 (a.getD i tIns.dflt).2.2.2.1, .int .i64 (a.getD i tIns.dflt).2.2.2.2.1, .int .i64 (a.getD i tIns.dflt).2.2.2.2.2.1, .int .i64 (a.getD i tIns.dflt).2.2.2.2.2.2.1, .int .i64 (a.getD i tIns.dflt).2.2.2.2.2.2.2]]))
  (.ret (.c (.lit true)) [])
theorem eqIns_l0_R_ok (a : List EIns) (b : List EIns) (i : Nat) : aRound Tryd.prog oc0 Tryd.f28 eqIns_lv 3000 (lp (bodyOf Tryd.f28) 0) (.junk :: .c (.ro tIns b) :: J8 (J2 (.c (.ro tIns a) :: .c (.int .i64 (a.length : Int)) :: .c (.int .i64 ((i : Nat) : Int)) :: J8 (J2 (.junk :: []))))) [] = eqIns_l0_R a b i := by kernel_rfl
theorem eqIns_l0 (a : List EIns) (b : List EIns) (i : Nat) (hl : a.length = b.length) (hb : a.length ≤ 9223372036854775807) : Run Tryd.prog 28 (retQ Tryd.prog (.c (.bool (decide (a.drop i = b.drop i))))) (lp (bodyOf Tryd.f28) 0) (.junk :: .c (.ro tIns b) :: J8 (J2 (.c (.ro tIns a) :: .c (.int .i64 (a.length : Int)) :: .c (.int .i64 ((i : Nat) : Int)) :: J8 (J2 (.junk :: []))))) [] :=
  Run.roundA oc0 eqIns_lv 3000 Tryd.func28 mixed (eqIns_l0_R a b i) (eqIns_l0_R_ok a b i) (by
    unfold eqIns_l0_R
    refine g_iteD (fun h0 => ?_) (fun h0 => ?_)
    · refine g_need (by omega) ?_
      refine g_need (by omega) ?_
      refine g_need (by omega) ?_
      refine g_need (by omega) ?_
      refine g_iteN (fun h1 => ?_) (fun h1 => ?_)
      · exact g_retl (by first | (rw [List.drop_eq_nil_of_le (by omega), List.drop_eq_nil_of_le (by omega)]; rfl) | (symm; rw [decide_eq_false_iff_not, drop_eqD (Ty.dflt tIns) hl (by omega)]; intro q; rw [q.1] at h1; simp at h1))
      · refine g_need (i64_iff.2 (by omega)) ?_
        refine g_stop (RunN.keep [] (false :: true :: F8 (F2 (true :: true :: true :: F8 (F2 (false :: []))))) n0 (by decide) rfl rfl ?_)
        have := eqIns_l0 a b (i + 1) hl hb; have e : decide (a.drop i = b.drop i) = decide (a.drop (i + 1) = b.drop (i + 1)) := (by rw [decide_eq_decide, drop_eqD (Ty.dflt tIns) hl (by omega)]; exact ⟨fun q => q.2, fun q => ⟨(by simp at h1; exact Prod.ext h1.1 (Prod.ext h1.2.1 (Prod.ext h1.2.2.1 (Prod.ext h1.2.2.2.1 (Prod.ext h1.2.2.2.2.1 (Prod.ext h1.2.2.2.2.2.1 (Prod.ext h1.2.2.2.2.2.2.1 h1.2.2.2.2.2.2.2))))))), q⟩⟩); rw [e]; exact this
    · exact g_retl (by first | (rw [List.drop_eq_nil_of_le (by omega), List.drop_eq_nil_of_le (by omega)]; rfl) | (symm; rw [decide_eq_false_iff_not, drop_eqD (Ty.dflt tIns) hl (by omega)]; intro q; rw [q.1] at h1; simp at h1))
    )
  termination_by a.length - i
  decreasing_by all_goals omega
theorem eqIns_fun (a : List EIns) (b : List EIns) : AFun Tryd.prog 28 [.c (.ro tIns a), .c (.ro tIns b)] (.c (.bool (decide (a = b)))) :=
  AFun.of oc0 eqIns_lv 3000 Tryd.func28 mixed rfl (by decide) (Nat.le_of_ble_eq_true rfl) _ (eqIns_T_ok a b) fun hF => by
    unfold eqIns_T
    refine g_iteND (fun h0 => ?_) (fun h0 => ?_)
    · exact g_retl (by symm; rw [decide_eq_false_iff_not]; intro q; exact h0 (by rw [q]))
    · refine g_stop (RunN.keep [] (false :: true :: F8 (F2 (true :: true :: true :: F8 (F2 (false :: []))))) n0 (by decide) rfl rfl ?_)
      have := eqIns_l0 a b 0 (by omega) hF.ro.1.1; exact this

def eqSet_lv : LV := ⟨(false :: true :: F8 (F2 (true :: true :: true :: F8 (F2 (false :: []))))), []⟩
noncomputable def eqSet_T (a : List EVal) (b : List EVal) : Tree :=
  .ite ((!(decide ((a.length : Int) = (b.length : Int)))))
  (.ret (.c (.lit false)) [])
  (.stop (lp (bodyOf Tryd.f59) 0) (.junk :: .c (.ro tVal b) :: J8 (J2 (.c (.ro tVal a) :: .c (.int .i64 (a.length : Int)) :: .c (.int .i64 0) :: J8 (J2 (.junk :: []))))) [])
theorem eqSet_T_ok (a : List EVal) (b : List EVal) : aRun Tryd.prog oc0 Tryd.f59 eqSet_lv 3000 [.code (bodyOf Tryd.f59)] ([.c (.ro tVal a), .c (.ro tVal b)] ++ List.replicate (Func.ntmps Tryd.f59 - 2) .junk) [] = eqSet_T a b := by kernel_rfl
noncomputable def eqSet_l0_R (a : List EVal) (b : List EVal) (i : Nat) : Tree :=
  .ite (decide (((i : Nat) : Int) < (a.length : Int)))
  (.need ((0 : Int) ≤ ((i : Nat) : Int) ∧ (((i : Nat) : Int) : Int) < (a.length : Int)) <|
   .need (i < a.length) <|
   .need ((0 : Int) ≤ ((i : Nat) : Int) ∧ (((i : Nat) : Int) : Int) < (b.length : Int)) <|
   .need (i < b.length) <|
   .ite ((!(decide ((a.getD i tVal.dflt).1 = (b.getD i tVal.dflt).1) && (decide ((a.getD i tVal.dflt).2 = (b.getD i tVal.dflt).2) && true))))
   (.ret (.c (.lit false)) [.cells 116 [.int .i64 (a.getD i tVal.dflt).1, .int .i64 (a.getD i tVal.dflt).2]])
   (.need (inR .i64 (((i : Nat) : Int) + 1)) <|
    .stop (lp (bodyOf Tryd.f59) 0) (.junk :: .c (.ro tVal b) :: J8 (J2 (.c (.ro tVal a) :: .c (.int .i64 (a.length : Int)) :: .c (.int .i64 (((i : Nat) : Int) + 1)) :: J8 (J2 (.junk :: []))))) [.cells 116 [.int .i64 (a.getD i tVal.dflt).1, .int .i64 (a.getD i tVal.dflt).2]]))
  (.ret (.c (.lit true)) [])
theorem eqSet_l0_R_ok (a : List EVal) (b : List EVal) (i : Nat) : aRound Tryd.prog oc0 Tryd.f59 eqSet_lv 3000 (lp (bodyOf Tryd.f59) 0) (.junk :: .c (.ro tVal b) :: J8 (J2 (.c (.ro tVal a) :: .c (.int .i64 (a.length : Int)) :: .c (.int .i64 ((i : Nat) : Int)) :: J8 (J2 (.junk :: []))))) [] = eqSet_l0_R a b i := by kernel_rfl
theorem eqSet_l0 (a : List EVal) (b : List EVal) (i : Nat) (hl : a.length = b.length) (hb : a.length ≤ 9223372036854775807) : Run Tryd.prog 59 (retQ Tryd.prog (.c (.bool (decide (a.drop i = b.drop i))))) (lp (bodyOf Tryd.f59) 0) (.junk :: .c (.ro tVal b) :: J8 (J2 (.c (.ro tVal a) :: .c (.int .i64 (a.length : Int)) :: .c (.int .i64 ((i : Nat) : Int)) :: J8 (J2 (.junk :: []))))) [] :=
  Run.roundA oc0 eqSet_lv 3000 Tryd.func59 mixed (eqSet_l0_R a b i) (eqSet_l0_R_ok a b i) (by
    unfold eqSet_l0_R
    refine g_iteD (fun h0 => ?_) (fun h0 => ?_)
    · refine g_need (by omega) ?_
      refine g_need (by omega) ?_
      refine g_need (by omega) ?_
      refine g_need (by omega) ?_
      refine g_iteN (fun h1 => ?_) (fun h1 => ?_)
      · exact g_retl (by first | (rw [List.drop_eq_nil_of_le (by omega), List.drop_eq_nil_of_le (by omega)]; rfl) | (symm; rw [decide_eq_false_iff_not, drop_eqD (Ty.dflt tVal) hl (by omega)]; intro q; rw [q.1] at h1; simp at h1))
      · refine g_need (i64_iff.2 (by omega)) ?_
        refine g_stop (RunN.keep [] (false :: true :: F8 (F2 (true :: true :: true :: F8 (F2 (false :: []))))) n0 (by decide) rfl rfl ?_)
        have := eqSet_l0 a b (i + 1) hl hb; have e : decide (a.drop i = b.drop i) = decide (a.drop (i + 1) = b.drop (i + 1)) := (by rw [decide_eq_decide, drop_eqD (Ty.dflt tVal) hl (by omega)]; exact ⟨fun q => q.2, fun q => ⟨(by simp at h1; exact Prod.ext h1.1 h1.2), q⟩⟩); rw [e]; exact this
    · exact g_retl (by first | (rw [List.drop_eq_nil_of_le (by omega), List.drop_eq_nil_of_le (by omega)]; rfl) | (symm; rw [decide_eq_false_iff_not, drop_eqD (Ty.dflt tVal) hl (by omega)]; intro q; rw [q.1] at h1; simp at h1))
    )
  termination_by a.length - i
  decreasing_by all_goals omega
theorem eqSet_fun (a : List EVal) (b : List EVal) : AFun Tryd.prog 59 [.c (.ro tVal a), .c (.ro tVal b)] (.c (.bool (decide (a = b)))) :=
  AFun.of oc0 eqSet_lv 3000 Tryd.func59 mixed rfl (by decide) (Nat.le_of_ble_eq_true rfl) _ (eqSet_T_ok a b) fun hF => by
    unfold eqSet_T
    refine g_iteND (fun h0 => ?_) (fun h0 => ?_)
    · exact g_retl (by symm; rw [decide_eq_false_iff_not]; intro q; exact h0 (by rw [q]))
    · refine g_stop (RunN.keep [] (false :: true :: F8 (F2 (true :: true :: true :: F8 (F2 (false :: []))))) n0 (by decide) rfl rfl ?_)
      have := eqSet_l0 a b 0 (by omega) hF.ro.1.1; exact this

noncomputable def oc30 : Orc where
  pure := fun f args => match f, args with
    | 41, [a0, a1] => match dA (.slice tI) a0, dA (.slice tI) a1 with
      | some x0, some x1 => some (.c (.bool (eqIF x0 x1)))
      | _, _ => none
    | _, _ => none
  heap := fun _ _ _ => none
def sameM_lv : LV := ⟨([]), []⟩
noncomputable def sameM_T (a : EMake) (b : EMake) : Tree :=
  .ite (decide (a.1 = b.1))
  (.ite (decide (a.2.1 = b.2.1))
   (.ite (decide (a.2.2.1 = b.2.2.1))
    (.call 41 [.c (.ro tI a.2.2.2), .c (.ro tI b.2.2.2)] false (.c (.bool (eqIF a.2.2.2 b.2.2.2))) <|
     .ret (.c (.bool (eqIF a.2.2.2 b.2.2.2))) [.cells 118 (Ty.enc tMake a), .cells 118 (Ty.enc tMake b)])
    (.ret (.c (.lit false)) [.cells 118 (Ty.enc tMake a), .cells 118 (Ty.enc tMake b)]))
   (.ret (.c (.lit false)) [.cells 118 (Ty.enc tMake a), .cells 118 (Ty.enc tMake b)]))
  (.ret (.c (.lit false)) [.cells 118 (Ty.enc tMake a), .cells 118 (Ty.enc tMake b)])
theorem sameM_T_ok (a : EMake) (b : EMake) : aRun Tryd.prog oc30 Tryd.f60 sameM_lv 3000 [.code (bodyOf Tryd.f60)] ([.agg (tMake.enc a), .agg (tMake.enc b)] ++ List.replicate (Func.ntmps Tryd.f60 - 2) .junk) [] = sameM_T a b := by kernel_rfl
theorem sameM_fun (a : EMake) (b : EMake) : AFun Tryd.prog 60 [.agg (tMake.enc a), .agg (tMake.enc b)] (.c (.bool (decide (a = b)))) :=
  AFun.of oc30 sameM_lv 3000 Tryd.func60 mixed rfl (by decide) (Nat.le_of_ble_eq_true rfl) _ (sameM_T_ok a b) fun hF => by
    unfold sameM_T
    refine g_iteD (fun h0 => ?_) (fun h0 => ?_)
    · refine g_iteD (fun h1 => ?_) (fun h1 => ?_)
      · refine g_iteD (fun h2 => ?_) (fun h2 => ?_)
        · refine g_call (eqI_fun a.2.2.2 b.2.2.2) (fun h => nomatch h) ?_
          exact g_retb (by obtain ⟨a0, a1, a2, a3⟩ := a; obtain ⟨b0, b1, b2, b3⟩ := b; simp_all [eqIF])
        · exact g_retl (by obtain ⟨a0, a1, a2, a3⟩ := a; obtain ⟨b0, b1, b2, b3⟩ := b; simp_all [eqIF])
      · exact g_retl (by obtain ⟨a0, a1, a2, a3⟩ := a; obtain ⟨b0, b1, b2, b3⟩ := b; simp_all [eqIF])
    · exact g_retl (by obtain ⟨a0, a1, a2, a3⟩ := a; obtain ⟨b0, b1, b2, b3⟩ := b; simp_all [eqIF])

noncomputable def oc31 : Orc where
  pure := fun f args => match f, args with
    | 59, [a0, a1] => match dA (.slice tVal) a0, dA (.slice tVal) a1 with
      | some x0, some x1 => some (.c (.bool (decide (x0 = x1))))
      | _, _ => none
    | 60, [a0, a1] => match dA tMake a0, dA tMake a1 with
      | some x0, some x1 => some (.c (.bool (decide (x0 = x1))))
      | _, _ => none
    | _, _ => none
  heap := fun _ _ _ => none
def sameX_lv : LV := ⟨(F2 (true :: true :: F32 (false :: true :: true :: F8 (F4 (F2 (false :: [])))))), []⟩
noncomputable def sameX_T (a : EExit) (b : EExit) : Tree :=
  .ite ((!(decide (a.1 = b.1))))
  (.ret (.c (.lit false)) [.cells 27 (Ty.enc tExit a), .cells 27 (Ty.enc tExit b)])
  (.ite ((!(decide (a.2.1 = b.2.1))))
   (.ret (.c (.lit false)) [.cells 27 (Ty.enc tExit a), .cells 27 (Ty.enc tExit b)])
   (.call 59 [.c (.ro tVal a.2.2.1), .c (.ro tVal b.2.2.1)] false (.c (.bool (decide (a.2.2.1 = b.2.2.1)))) <|
    .ite ((!(decide (a.2.2.1 = b.2.2.1))))
    (.ret (.c (.lit false)) [.cells 27 (Ty.enc tExit a), .cells 27 (Ty.enc tExit b)])
    (.ite ((!(decide ((a.2.2.2.length : Int) = (b.2.2.2.length : Int)))))
     (.ret (.c (.lit false)) [.cells 27 (Ty.enc tExit a), .cells 27 (Ty.enc tExit b)])
     (.stop (lp (bodyOf Tryd.f29) 0) (J2 (.c (.ptr 0 0 0 0) :: .c (.ptr 1 0 0 0) :: J32 (.junk :: .c (.int .i64 (a.2.2.2.length : Int)) :: .c (.int .i64 0) :: J8 (J4 (J2 (.junk :: [])))))) [.cells 27 (Ty.enc tExit a), .cells 27 (Ty.enc tExit b)]))))
theorem sameX_T_ok (a : EExit) (b : EExit) : aRun Tryd.prog oc31 Tryd.f29 sameX_lv 3000 [.code (bodyOf Tryd.f29)] ([.agg (tExit.enc a), .agg (tExit.enc b)] ++ List.replicate (Func.ntmps Tryd.f29 - 2) .junk) [] = sameX_T a b := by kernel_rfl
noncomputable def sameX_l0_R (a : EExit) (b : EExit) (i : Nat) : Tree :=
  .ite (decide (((i : Nat) : Int) < (a.2.2.2.length : Int)))
  (.need ((0 : Int) ≤ ((i : Nat) : Int) ∧ (((i : Nat) : Int) : Int) < (a.2.2.2.length : Int)) <|
   .need (i < a.2.2.2.length) <|
   .need ((0 : Int) ≤ ((i : Nat) : Int) ∧ (((i : Nat) : Int) : Int) < (b.2.2.2.length : Int)) <|
   .need (i < b.2.2.2.length) <|
   .call 60 [.agg [.int .i64 (a.2.2.2.getD i tMake.dflt).1, .int .i64 (a.2.2.2.getD i tMake.dflt).2.1, .int .i64 (a.2.2.2.getD i tMake.dflt).2.2.1, .ro tI (a.2.2.2.getD i tMake.dflt).2.2.2], .agg [.int .i64 (b.2.2.2.getD i tMake.dflt).1, .int .i64 (b.2.2.2.getD i tMake.dflt).2.1, .int .i64 (b.2.2.2.getD i tMake.dflt).2.2.1, .ro tI (b.2.2.2.getD i tMake.dflt).2.2.2]] false (.c (.bool (decide ((a.2.2.2.getD i tMake.dflt) = (b.2.2.2.getD i tMake.dflt))))) <|
   .ite ((!(decide ((a.2.2.2.getD i tMake.dflt) = (b.2.2.2.getD i tMake.dflt)))))
   (.ret (.c (.lit false)) [.cells 27 (Ty.enc tExit a), .cells 27 (Ty.enc tExit b)])
   (.need (inR .i64 (((i : Nat) : Int) + 1)) <|
    .stop (lp (bodyOf Tryd.f29) 0) (J2 (.c (.ptr 0 0 0 0) :: .c (.ptr 1 0 0 0) :: J32 (.junk :: .c (.int .i64 (a.2.2.2.length : Int)) :: .c (.int .i64 (((i : Nat) : Int) + 1)) :: J8 (J4 (J2 (.junk :: [])))))) [.cells 27 (Ty.enc tExit a), .cells 27 (Ty.enc tExit b)]))
  (.ret (.c (.lit true)) [.cells 27 (Ty.enc tExit a), .cells 27 (Ty.enc tExit b)])
theorem sameX_l0_R_ok (a : EExit) (b : EExit) (i : Nat) : aRound Tryd.prog oc31 Tryd.f29 sameX_lv 3000 (lp (bodyOf Tryd.f29) 0) (J2 (.c (.ptr 0 0 0 0) :: .c (.ptr 1 0 0 0) :: J32 (.junk :: .c (.int .i64 (a.2.2.2.length : Int)) :: .c (.int .i64 ((i : Nat) : Int)) :: J8 (J4 (J2 (.junk :: [])))))) [.cells 27 (Ty.enc tExit a), .cells 27 (Ty.enc tExit b)] = sameX_l0_R a b i := by kernel_rfl
theorem sameX_l0 (a : EExit) (b : EExit) (i : Nat) (hl : a.2.2.2.length = b.2.2.2.length) (hb : a.2.2.2.length ≤ 9223372036854775807) : Run Tryd.prog 29 (retQ Tryd.prog (.c (.bool (decide (a.2.2.2.drop i = b.2.2.2.drop i))))) (lp (bodyOf Tryd.f29) 0) (J2 (.c (.ptr 0 0 0 0) :: .c (.ptr 1 0 0 0) :: J32 (.junk :: .c (.int .i64 (a.2.2.2.length : Int)) :: .c (.int .i64 ((i : Nat) : Int)) :: J8 (J4 (J2 (.junk :: [])))))) [.cells 27 (Ty.enc tExit a), .cells 27 (Ty.enc tExit b)] :=
  Run.roundA oc31 sameX_lv 3000 Tryd.func29 mixed (sameX_l0_R a b i) (sameX_l0_R_ok a b i) (by
    unfold sameX_l0_R
    refine g_iteD (fun h0 => ?_) (fun h0 => ?_)
    · refine g_need (by omega) ?_
      refine g_need (by omega) ?_
      refine g_need (by omega) ?_
      refine g_need (by omega) ?_
      refine g_call (sameM_fun (a.2.2.2.getD i tMake.dflt) (b.2.2.2.getD i tMake.dflt)) (fun h => nomatch h) ?_
      refine g_iteND (fun h1 => ?_) (fun h1 => ?_)
      · exact g_retl (by first | (rw [List.drop_eq_nil_of_le (by omega), List.drop_eq_nil_of_le (by omega)]; rfl) | (symm; rw [decide_eq_false_iff_not, drop_eqD (Ty.dflt tMake) hl (by omega)]; intro q; rw [q.1] at h1; simp at h1))
      · refine g_need (i64_iff.2 (by omega)) ?_
        refine g_stop (RunN.keep [0, 1] (F2 (true :: true :: F32 (false :: true :: true :: F8 (F4 (F2 (false :: [])))))) n0 (by decide) rfl rfl ?_)
        have := sameX_l0 a b (i + 1) hl hb; have e : decide (a.2.2.2.drop i = b.2.2.2.drop i) = decide (a.2.2.2.drop (i + 1) = b.2.2.2.drop (i + 1)) := (by rw [decide_eq_decide, drop_eqD (Ty.dflt tMake) hl (by omega)]; exact ⟨fun q => q.2, fun q => ⟨(by first | exact h1 | exact of_decide_eq_true h1), q⟩⟩); rw [e]; exact this
    · exact g_retl (by first | (rw [List.drop_eq_nil_of_le (by omega), List.drop_eq_nil_of_le (by omega)]; rfl) | (symm; rw [decide_eq_false_iff_not, drop_eqD (Ty.dflt tMake) hl (by omega)]; intro q; rw [q.1] at h1; simp at h1))
    )
  termination_by a.2.2.2.length - i
  decreasing_by all_goals omega
theorem sameX_fun (a : EExit) (b : EExit) : AFun Tryd.prog 29 [.agg (tExit.enc a), .agg (tExit.enc b)] (.c (.bool (decide (a = b)))) :=
  AFun.of oc31 sameX_lv 3000 Tryd.func29 mixed rfl (by decide) (Nat.le_of_ble_eq_true rfl) _ (sameX_T_ok a b) fun hF => by
    have hb := hF.agg.1.2.2.2.1
    unfold sameX_T
    refine g_iteND (fun h0 => ?_) (fun h0 => ?_)
    · exact g_retl (by symm; rw [decide_eq_false_iff_not]; rintro rfl; simp_all)
    · refine g_iteND (fun h1 => ?_) (fun h1 => ?_)
      · exact g_retl (by symm; rw [decide_eq_false_iff_not]; rintro rfl; simp_all)
      · refine g_call (eqSet_fun a.2.2.1 b.2.2.1) (fun h => nomatch h) ?_
        refine g_iteND (fun h2 => ?_) (fun h2 => ?_)
        · exact g_retl (by symm; rw [decide_eq_false_iff_not]; rintro rfl; simp_all)
        · refine g_iteND (fun h3 => ?_) (fun h3 => ?_)
          · exact g_retl (by symm; rw [decide_eq_false_iff_not]; rintro rfl; simp_all)
          · refine g_stop (RunN.keep [0, 1] (F2 (true :: true :: F32 (false :: true :: true :: F8 (F4 (F2 (false :: [])))))) n0 (by decide) rfl rfl ?_)
            have := sameX_l0 a b 0 (by omega) hb; rw [List.drop_zero, List.drop_zero] at this; have e : decide (a = b) = decide (a.2.2.2 = b.2.2.2) := (by rw [decide_eq_decide]; exact ⟨fun q => by rw [q], fun q => Prod.ext (by assumption) (Prod.ext (by assumption) (Prod.ext (by assumption) q))⟩); rw [e]; exact this

noncomputable def oc32 : Orc where
  pure := fun f args => match f, args with
    | 28, [a0, a1] => match dA (.slice tIns) a0, dA (.slice tIns) a1 with
      | some x0, some x1 => some (.c (.bool (decide (x0 = x1))))
      | _, _ => none
    | 29, [a0, a1] => match dA tExit a0, dA tExit a1 with
      | some x0, some x1 => some (.c (.bool (decide (x0 = x1))))
      | _, _ => none
    | _, _ => none
  heap := fun _ _ _ => none
def sameT_lv : LV := ⟨(F2 (true :: true :: F32 (F16 (F8 (true :: true :: F8 (F4 (F2 (false :: [])))))))), [3]⟩
noncomputable def sameT_T (a : ETrace) (b : ETrace) : Tree :=
  .ite ((!(decide (a.1 = b.1))))
  (.ret (.c (.lit false)) [.cells 29 (Ty.enc tTrace a), .cells 29 (Ty.enc tTrace b)])
  (.ite ((!(decide (a.2.1 = b.2.1))))
   (.ret (.c (.lit false)) [.cells 29 (Ty.enc tTrace a), .cells 29 (Ty.enc tTrace b)])
   (.ite ((!(decide (a.2.2.1 = b.2.2.1))))
    (.ret (.c (.lit false)) [.cells 29 (Ty.enc tTrace a), .cells 29 (Ty.enc tTrace b)])
    (.call 28 [.c (.ro tIns a.2.2.2.1), .c (.ro tIns b.2.2.2.1)] false (.c (.bool (decide (a.2.2.2.1 = b.2.2.2.1)))) <|
     .ite ((!(decide (a.2.2.2.1 = b.2.2.2.1))))
     (.ret (.c (.lit false)) [.cells 29 (Ty.enc tTrace a), .cells 29 (Ty.enc tTrace b)])
     (.ite ((!(decide ((a.2.2.2.2.1.length : Int) = (b.2.2.2.2.1.length : Int)))))
      (.ret (.c (.lit false)) [.cells 29 (Ty.enc tTrace a), .cells 29 (Ty.enc tTrace b)])
      (.call 29 [.agg [.int .i64 a.2.2.2.2.2.1.1, .int .i64 a.2.2.2.2.2.1.2.1, .ro tVal a.2.2.2.2.2.1.2.2.1, .ro tMake a.2.2.2.2.2.1.2.2.2], .agg [.int .i64 b.2.2.2.2.2.1.1, .int .i64 b.2.2.2.2.2.1.2.1, .ro tVal b.2.2.2.2.2.1.2.2.1, .ro tMake b.2.2.2.2.2.1.2.2.2]] false (.c (.bool (decide (a.2.2.2.2.2.1 = b.2.2.2.2.2.1)))) <|
       .ite ((!(decide (a.2.2.2.2.2.1 = b.2.2.2.2.2.1))))
       (.ret (.c (.lit false)) [.cells 29 (Ty.enc tTrace a), .cells 29 (Ty.enc tTrace b)])
       (.call 29 [.agg [.int .i64 a.2.2.2.2.2.2.1, .int .i64 a.2.2.2.2.2.2.2.1, .ro tVal a.2.2.2.2.2.2.2.2.1, .ro tMake a.2.2.2.2.2.2.2.2.2], .agg [.int .i64 b.2.2.2.2.2.2.1, .int .i64 b.2.2.2.2.2.2.2.1, .ro tVal b.2.2.2.2.2.2.2.2.1, .ro tMake b.2.2.2.2.2.2.2.2.2]] false (.c (.bool (decide (a.2.2.2.2.2.2 = b.2.2.2.2.2.2)))) <|
        .ite ((!(decide (a.2.2.2.2.2.2 = b.2.2.2.2.2.2))))
        (.ret (.c (.lit false)) [.cells 29 (Ty.enc tTrace a), .cells 29 (Ty.enc tTrace b)])
        (.stop (rg (bodyOf Tryd.f16) 3) (J2 (.c (.ptr 0 0 0 0) :: .c (.ptr 1 0 0 0) :: J32 (J32 (J8 (.junk :: []))))) [.cells 29 (Ty.enc tTrace a), .cells 29 (Ty.enc tTrace b)])))))))
theorem sameT_T_ok (a : ETrace) (b : ETrace) : aRun Tryd.prog oc32 Tryd.f16 sameT_lv 3000 [.code (bodyOf Tryd.f16)] ([.agg (tTrace.enc a), .agg (tTrace.enc b)] ++ List.replicate (Func.ntmps Tryd.f16 - 2) .junk) [] = sameT_T a b := by kernel_rfl
noncomputable def sameT_r3_R (a : ETrace) (b : ETrace) : Tree :=
  .stop (lp (bodyOf Tryd.f16) 0) (J2 (.c (.ptr 0 0 0 0) :: .c (.ptr 1 0 0 0) :: J32 (J16 (J8 (.c (.int .i64 (a.2.2.2.2.1.length : Int)) :: .c (.int .i64 0) :: J8 (J4 (J2 (.junk :: [])))))))) [.cells 29 (Ty.enc tTrace a), .cells 29 (Ty.enc tTrace b)]
theorem sameT_r3_R_ok (a : ETrace) (b : ETrace) : aRound Tryd.prog oc32 Tryd.f16 sameT_lv 3000 (rg (bodyOf Tryd.f16) 3) (J2 (.c (.ptr 0 0 0 0) :: .c (.ptr 1 0 0 0) :: J32 (J32 (J8 (.junk :: []))))) [.cells 29 (Ty.enc tTrace a), .cells 29 (Ty.enc tTrace b)] = sameT_r3_R a b := by kernel_rfl
noncomputable def sameT_l0_R (a : ETrace) (b : ETrace) (i : Nat) : Tree :=
  .ite (decide (((i : Nat) : Int) < (a.2.2.2.2.1.length : Int)))
  (.need ((0 : Int) ≤ ((i : Nat) : Int) ∧ (((i : Nat) : Int) : Int) < (a.2.2.2.2.1.length : Int)) <|
   .need (i < a.2.2.2.2.1.length) <|
   .need ((0 : Int) ≤ ((i : Nat) : Int) ∧ (((i : Nat) : Int) : Int) < (b.2.2.2.2.1.length : Int)) <|
   .need (i < b.2.2.2.2.1.length) <|
   .call 29 [.agg [.int .i64 (a.2.2.2.2.1.getD i tExit.dflt).1, .int .i64 (a.2.2.2.2.1.getD i tExit.dflt).2.1, .ro tVal (a.2.2.2.2.1.getD i tExit.dflt).2.2.1, .ro tMake (a.2.2.2.2.1.getD i tExit.dflt).2.2.2], .agg [.int .i64 (b.2.2.2.2.1.getD i tExit.dflt).1, .int .i64 (b.2.2.2.2.1.getD i tExit.dflt).2.1, .ro tVal (b.2.2.2.2.1.getD i tExit.dflt).2.2.1, .ro tMake (b.2.2.2.2.1.getD i tExit.dflt).2.2.2]] false (.c (.bool (decide ((a.2.2.2.2.1.getD i tExit.dflt) = (b.2.2.2.2.1.getD i tExit.dflt))))) <|
   .ite ((!(decide ((a.2.2.2.2.1.getD i tExit.dflt) = (b.2.2.2.2.1.getD i tExit.dflt)))))
   (.ret (.c (.lit false)) [.cells 29 (Ty.enc tTrace a), .cells 29 (Ty.enc tTrace b)])
   (.need (inR .i64 (((i : Nat) : Int) + 1)) <|
    .stop (lp (bodyOf Tryd.f16) 0) (J2 (.c (.ptr 0 0 0 0) :: .c (.ptr 1 0 0 0) :: J32 (J16 (J8 (.c (.int .i64 (a.2.2.2.2.1.length : Int)) :: .c (.int .i64 (((i : Nat) : Int) + 1)) :: J8 (J4 (J2 (.junk :: [])))))))) [.cells 29 (Ty.enc tTrace a), .cells 29 (Ty.enc tTrace b)]))
  (.ret (.c (.lit true)) [.cells 29 (Ty.enc tTrace a), .cells 29 (Ty.enc tTrace b)])
theorem sameT_l0_R_ok (a : ETrace) (b : ETrace) (i : Nat) : aRound Tryd.prog oc32 Tryd.f16 sameT_lv 3000 (lp (bodyOf Tryd.f16) 0) (J2 (.c (.ptr 0 0 0 0) :: .c (.ptr 1 0 0 0) :: J32 (J16 (J8 (.c (.int .i64 (a.2.2.2.2.1.length : Int)) :: .c (.int .i64 ((i : Nat) : Int)) :: J8 (J4 (J2 (.junk :: [])))))))) [.cells 29 (Ty.enc tTrace a), .cells 29 (Ty.enc tTrace b)] = sameT_l0_R a b i := by kernel_rfl
theorem sameT_l0 (a : ETrace) (b : ETrace) (i : Nat) (hl : a.2.2.2.2.1.length = b.2.2.2.2.1.length) (hb : a.2.2.2.2.1.length ≤ 9223372036854775807) : Run Tryd.prog 16 (retQ Tryd.prog (.c (.bool (decide (a.2.2.2.2.1.drop i = b.2.2.2.2.1.drop i))))) (lp (bodyOf Tryd.f16) 0) (J2 (.c (.ptr 0 0 0 0) :: .c (.ptr 1 0 0 0) :: J32 (J16 (J8 (.c (.int .i64 (a.2.2.2.2.1.length : Int)) :: .c (.int .i64 ((i : Nat) : Int)) :: J8 (J4 (J2 (.junk :: [])))))))) [.cells 29 (Ty.enc tTrace a), .cells 29 (Ty.enc tTrace b)] :=
  Run.roundA oc32 sameT_lv 3000 Tryd.func16 mixed (sameT_l0_R a b i) (sameT_l0_R_ok a b i) (by
    unfold sameT_l0_R
    refine g_iteD (fun h0 => ?_) (fun h0 => ?_)
    · refine g_need (by omega) ?_
      refine g_need (by omega) ?_
      refine g_need (by omega) ?_
      refine g_need (by omega) ?_
      refine g_call (sameX_fun (a.2.2.2.2.1.getD i tExit.dflt) (b.2.2.2.2.1.getD i tExit.dflt)) (fun h => nomatch h) ?_
      refine g_iteND (fun h1 => ?_) (fun h1 => ?_)
      · exact g_retl (by first | (rw [List.drop_eq_nil_of_le (by omega), List.drop_eq_nil_of_le (by omega)]; rfl) | (symm; rw [decide_eq_false_iff_not, drop_eqD (Ty.dflt tExit) hl (by omega)]; intro q; rw [q.1] at h1; simp at h1))
      · refine g_need (i64_iff.2 (by omega)) ?_
        refine g_stop (RunN.keep [0, 1] (F2 (true :: true :: F32 (F16 (F8 (true :: true :: F8 (F4 (F2 (false :: [])))))))) n0 (by decide) rfl rfl ?_)
        have := sameT_l0 a b (i + 1) hl hb; have e : decide (a.2.2.2.2.1.drop i = b.2.2.2.2.1.drop i) = decide (a.2.2.2.2.1.drop (i + 1) = b.2.2.2.2.1.drop (i + 1)) := (by rw [decide_eq_decide, drop_eqD (Ty.dflt tExit) hl (by omega)]; exact ⟨fun q => q.2, fun q => ⟨(by first | exact h1 | exact of_decide_eq_true h1), q⟩⟩); rw [e]; exact this
    · exact g_retl (by first | (rw [List.drop_eq_nil_of_le (by omega), List.drop_eq_nil_of_le (by omega)]; rfl) | (symm; rw [decide_eq_false_iff_not, drop_eqD (Ty.dflt tExit) hl (by omega)]; intro q; rw [q.1] at h1; simp at h1))
    )
  termination_by a.2.2.2.2.1.length - i
  decreasing_by all_goals omega
theorem sameT_r3 (a : ETrace) (b : ETrace) (hl : a.2.2.2.2.1.length = b.2.2.2.2.1.length) (hb : a.2.2.2.2.1.length ≤ 9223372036854775807) : Run Tryd.prog 16 (retQ Tryd.prog (.c (.bool (decide (a.2.2.2.2.1 = b.2.2.2.2.1))))) (rg (bodyOf Tryd.f16) 3) (J2 (.c (.ptr 0 0 0 0) :: .c (.ptr 1 0 0 0) :: J32 (J32 (J8 (.junk :: []))))) [.cells 29 (Ty.enc tTrace a), .cells 29 (Ty.enc tTrace b)] :=
  Run.roundA oc32 sameT_lv 3000 Tryd.func16 mixed (sameT_r3_R a b) (sameT_r3_R_ok a b) (by
    unfold sameT_r3_R
    refine g_stop (RunN.keep [0, 1] (F2 (true :: true :: F32 (F16 (F8 (true :: true :: F8 (F4 (F2 (false :: [])))))))) n0 (by decide) rfl rfl ?_)
    have := sameT_l0 a b 0 hl hb; rw [List.drop_zero, List.drop_zero] at this; exact this
    )
theorem sameT_fun (a : ETrace) (b : ETrace) : AFun Tryd.prog 16 [.agg (tTrace.enc a), .agg (tTrace.enc b)] (.c (.bool (decide (a = b)))) :=
  AFun.of oc32 sameT_lv 3000 Tryd.func16 mixed rfl (by decide) (Nat.le_of_ble_eq_true rfl) _ (sameT_T_ok a b) fun hF => by
    have hb := hF.agg.1.2.2.2.2.1.1
    unfold sameT_T
    refine g_iteND (fun h0 => ?_) (fun h0 => ?_)
    · exact g_retl (by symm; rw [decide_eq_false_iff_not]; rintro rfl; simp_all)
    · refine g_iteND (fun h1 => ?_) (fun h1 => ?_)
      · exact g_retl (by symm; rw [decide_eq_false_iff_not]; rintro rfl; simp_all)
      · refine g_iteND (fun h2 => ?_) (fun h2 => ?_)
        · exact g_retl (by symm; rw [decide_eq_false_iff_not]; rintro rfl; simp_all)
        · refine g_call (eqIns_fun a.2.2.2.1 b.2.2.2.1) (fun h => nomatch h) ?_
          refine g_iteND (fun h3 => ?_) (fun h3 => ?_)
          · exact g_retl (by symm; rw [decide_eq_false_iff_not]; rintro rfl; simp_all)
          · refine g_iteND (fun h4 => ?_) (fun h4 => ?_)
            · exact g_retl (by symm; rw [decide_eq_false_iff_not]; rintro rfl; simp_all)
            · refine g_call (sameX_fun a.2.2.2.2.2.1 b.2.2.2.2.2.1) (fun h => nomatch h) ?_
              refine g_iteND (fun h5 => ?_) (fun h5 => ?_)
              · exact g_retl (by symm; rw [decide_eq_false_iff_not]; rintro rfl; simp_all)
              · refine g_call (sameX_fun a.2.2.2.2.2.2 b.2.2.2.2.2.2) (fun h => nomatch h) ?_
                refine g_iteND (fun h6 => ?_) (fun h6 => ?_)
                · exact g_retl (by symm; rw [decide_eq_false_iff_not]; rintro rfl; simp_all)
                · refine g_stop (RunN.keep [0, 1] (F2 (true :: true :: F32 (F32 (F8 (false :: []))))) n0 (by decide) rfl rfl ?_)
                  have := sameT_r3 a b (by omega) hb; have e : decide (a = b) = decide (a.2.2.2.2.1 = b.2.2.2.2.1) := (by rw [decide_eq_decide]; exact ⟨fun q => by rw [q], fun q => Prod.ext (by assumption) (Prod.ext (by assumption) (Prod.ext (by assumption) (Prod.ext (by assumption) (Prod.ext q (Prod.ext (by assumption) (by assumption))))))⟩); rw [e]; exact this

end Go.Proofs.YtefkifdhjabdiaaDoor
namespace Go.Proofs.YtefkifdhjabdiaaDoor
set_option maxHeartbeats 4000000
set_option linter.unusedVariables false
set_option linter.unusedSimpArgs false
set_option maxRecDepth 100000
/-- What a cut that is right tells. -/
theorem cut_full {t : ETrace} {to : List Int} (h : (cutF t to).2 = 0) : to.length = t.2.2.2.1.length ∧ ∃ r, cutLoop t.2.2.1 0 t.2.2.2.1 to [] true 0 [] = some r ∧ (cutF t to).1 = (t.1, t.2.1, loopAt t r.2.2.1 r.2.2.2.length, r.2.2.2, t.2.2.2.2.1.map (cutExit r.1), cutExit r.1 t.2.2.2.2.2.1, cutExit r.1 t.2.2.2.2.2.2) := by
  unfold cutF at h ⊢
  split at h
  · rename_i hl
    refine ⟨hl, ?_⟩
    rw [if_pos hl]
    cases hr : cutLoop t.2.2.1 0 t.2.2.2.1 to [] true 0 [] with
    | none => rw [hr] at h; exact absurd (show (3 : Int) = 0 from h) (by decide)
    | some r =>
      refine ⟨r, rfl, ?_⟩
      rw [hr] at h
      unfold cutThen cutEnd endF at h ⊢
      simp only at h ⊢
      split at h
      · rename_i hc
        rw [if_pos hc]
        simp
      · exact absurd (show (3 : Int) = 0 from h) (by decide)
  · exact absurd (show (3 : Int) = 0 from h) (by decide)
theorem cutLoop_ext {loop : Int} : ∀ {xs : List EIns} {i : Nat} {ns at_ : List Int} {f : Bool} {lo : Int} {ins : List EIns} {r : List Int × Bool × Int × List EIns}, cutLoop loop i xs ns at_ f lo ins = some r → (∃ a, r.1 = at_ ++ a) ∧ (∃ b, r.2.2.2 = ins ++ b) ∧ (loop < (i : Int) → r.2.2.1 = lo)
  | [], i, ns, at_, f, lo, ins, r, h => by
    unfold cutLoop at h
    injection h with h
    rw [← h]
    exact ⟨⟨[], by simp⟩, ⟨[], by simp⟩, fun _ => rfl⟩
  | x :: xs, i, [], at_, f, lo, ins, r, h => by
    unfold cutLoop at h
    injection h with h
    rw [← h]
    exact ⟨⟨[], by simp⟩, ⟨[], by simp⟩, fun _ => rfl⟩
  | x :: xs, i, n :: ns, at_, f, lo, ins, r, h => by
    rw [cutLoop] at h
    have fin : ∀ {at2 : List Int} {f2 : Bool} {ins2 : List EIns} {v : Int}, at2 = at_ ++ [v] → (∃ b, ins2 = ins ++ b) → cutLoop loop (i + 1) xs ns at2 f2 (if (i : Int) = loop then (ins.length : Int) else lo) ins2 = some r → (∃ a, r.1 = at_ ++ a) ∧ (∃ b, r.2.2.2 = ins ++ b) ∧ (loop < (i : Int) → r.2.2.1 = lo) := by
      intro at2 f2 ins2 v ha ⟨b0, hb⟩ hc
      obtain ⟨⟨a, h1⟩, ⟨b, h2⟩, h3⟩ := cutLoop_ext hc
      refine ⟨⟨v :: a, by rw [h1, ha, List.append_assoc, List.singleton_append]⟩, ⟨b0 ++ b, by rw [h2, hb, List.append_assoc]⟩, fun hl => ?_⟩
      rw [h3 (by omega), if_neg (by omega)]
    split at h
    · exact fin rfl ⟨_, rfl⟩ h
    · split at h
      · exact fin rfl ⟨[], by simp⟩ h
      · split at h
        · split at h
          · exact fin rfl ⟨[], by simp⟩ h
          · cases h
        · cases h
/-- Where the loop begins: as many are kept as are ahead of it. -/
theorem cutLoop_at {loop : Int} {x : EIns} {xs : List EIns} {i : Nat} {n : Int} {ns at_ : List Int} {f : Bool} {lo : Int} {ins : List EIns} {r : List Int × Bool × Int × List EIns} (hi : (i : Int) = loop) (h : cutLoop loop i (x :: xs) (n :: ns) at_ f lo ins = some r) : r.2.2.1 = (ins.length : Int) := by
  rw [cutLoop] at h
  rw [if_pos hi] at h
  split at h
  · exact (cutLoop_ext h).2.2 (by omega)
  · split at h
    · exact (cutLoop_ext h).2.2 (by omega)
    · split at h
      · split at h
        · exact (cutLoop_ext h).2.2 (by omega)
        · cases h
      · cases h
theorem cut_pre {loop : Int} (l R : List EIns) (S : List Int) (hlp : (l.length : Int) ≤ loop) (hx : ∀ (i : Nat) (x : EIns), l[i]? = some x → cutInsOk (iota (i + 1)) x = true ∧ cutIns (iota (i + 1)) x = x) : ∀ (k i : Nat) (lo : Int), l.length - i = k → i ≤ l.length →
    cutLoop loop i (l.drop i ++ R) ((iota l.length).drop i ++ S) (iota i) true lo (l.take i) = cutLoop loop l.length R S (iota l.length) true lo l
  | 0, i, lo, hk, hi => by
    obtain rfl : i = l.length := by omega
    rw [List.drop_eq_nil_of_le (Nat.le_refl _), List.take_of_length_le (Nat.le_refl _), List.drop_eq_nil_of_le (by rw [iota_len]; exact Nat.le_refl _)]
    rfl
  | k + 1, i, lo, hk, hi => by
    have hlt : i < l.length := by omega
    have hlt2 : i < (iota l.length).length := by rw [iota_len]; exact hlt
    have ex : l[i]? = some (l.getD i tIns.dflt) := by rw [List.getD_eq_getElem?_getD, List.getElem?_eq_getElem hlt]; rfl
    obtain ⟨q1, q2⟩ := hx i _ ex
    have e1 : (iota l.length).getD i tI.dflt = (i : Int) := by
      have := iota_at (n := l.length) (v := (i : Int)) (by omega) (by omega)
      rwa [Int.toNat_natCast] at this
    have et : l.take i ++ [l.getD i tIns.dflt] = l.take (i + 1) := by rw [List.take_add_one, ex]; rfl
    have el : ((l.take i).length : Int) = (i : Int) := by rw [List.length_take, Nat.min_eq_left hi]
    have ih := cut_pre (loop := loop) l R S hlp hx k (i + 1) lo (by omega) (by omega)
    rw [dropCons (α := EIns) (Ty.dflt tIns) hlt, dropCons (α := Int) (Ty.dflt tI) hlt2, List.cons_append, List.cons_append, cutLoop, if_pos e1, el, iota_succ, q1, q2, et, if_neg (by omega : ¬ (i : Int) = loop)]
    exact ih
theorem cutExit_id {c : EChk} {x : EExit} {a : Int} {at_ : List Int} (h : rightXF c x a = true) (hat : ∀ v, 0 ≤ v → v < (c.2.2.2.2.1.length : Int) → (cutOne at_ v).1 = v) : cutExit at_ x = x := by
  obtain ⟨_, _, h1, h2⟩ := rightXF_iff.1 h
  have e1 : x.2.2.1.map (cutSet at_) = x.2.2.1 := by
    conv => rhs; rw [← List.map_id x.2.2.1]
    refine List.map_congr_left fun s hs => ?_
    obtain ⟨q0, _, q1⟩ := valueF_in (sets_lo h1 s hs)
    unfold cutSet
    rw [hat s.2 q0 q1]
    rfl
  have e2 : x.2.2.2.map (cutMake at_) = x.2.2.2 := by
    conv => rhs; rw [← List.map_id x.2.2.2]
    refine List.map_congr_left fun m hm => ?_
    obtain ⟨q1, _, _, _, _, _, _, q8⟩ := makeF_iff.1 (makes_lo h2 m hm)
    obtain ⟨r0, _, r1⟩ := valueF_in q1
    have e3 : (m.2.2.2.map fun v => (cutOne at_ v).1) = m.2.2.2 := by
      conv => rhs; rw [← List.map_id m.2.2.2]
      refine List.map_congr_left fun v hv => ?_
      obtain ⟨s0, _, s1⟩ := valueF_in (List.all_eq_true.1 q8 v hv)
      rw [hat v s0 s1]
      rfl
    unfold cutMake
    rw [hat m.1 r0 r1, e3]
    rfl
  unfold cutExit
  rw [e1, e2]
theorem cutOne_pre {n : Nat} {a : List Int} {v : Int} (h0 : 0 ≤ v) (h : v < (n : Int)) : (cutOne (iota n ++ a) v).1 = v := by
  have hv : v.toNat < (iota n).length := by rw [iota_len]; omega
  have e : (iota n ++ a).getD v.toNat tI.dflt = v := by
    rw [List.getD_eq_getElem?_getD, List.getElem?_append_left hv, ← List.getD_eq_getElem?_getD]
    exact iota_at h0 h
  have hl : ((iota n ++ a).length : Int) = (n : Int) + (a.length : Int) := by rw [List.length_append, iota_len]; omega
  unfold cutOne
  rw [if_neg (by omega), if_neg (by omega), if_neg (by rw [e]; omega), e]
theorem pLoop_ext (t : ETrace) : ∀ (l : List EIns) (i : Nat) (is : List Bool) (to : List Int), ∃ S, pLoop t i l is to = to ++ S
  | [], i, is, to => ⟨[], by rw [pLoop]; simp⟩
  | x :: r, i, is, to => by
    obtain ⟨S, hS⟩ := pLoop_ext t r (i + 1) (is.set i (pSt t is x)) (to ++ [pTo (t.2.2.2.1.length : Int) i (pSt t is x) x])
    exact ⟨_ :: S, by rw [pLoop, hS, List.append_assoc, List.singleton_append]⟩
/-- What a peeled trace is like. -/
theorem peel_facts {p : EProg} {t : ETrace} (he : (peelDo p t).2 = 0) : ((peelDo p t).1 = t ∧ (¬ 0 < t.2.2.1 → t.2.2.1 = 0)) ∨ (¬ 0 < t.2.2.1 ∧ (peelDo p t).1.2.2.1 = (t.2.2.2.1.length : Int) ∧ 0 < t.2.2.2.1.length ∧ t.2.2.2.1.length ≤ (peelDo p t).1.2.2.2.1.length ∧ (peelDo p t).1.2.2.2.2.1.length = 2 * t.2.2.2.2.1.length ∧
    (peelDo p t).1.2.2.2.1.take t.2.2.2.1.length = t.2.2.2.1 ∧ (peelDo p t).1.2.2.2.2.2.1 = t.2.2.2.2.2.2 ∧ ∀ i, i < t.2.2.2.2.1.length → (peelDo p t).1.2.2.2.2.1.getD i tExit.dflt = t.2.2.2.2.1.getD i tExit.dflt ∧ ((peelDo p t).1.2.2.2.2.1.getD (t.2.2.2.2.1.length + i) tExit.dflt).1 = (t.2.2.2.2.1.getD i tExit.dflt).1 ∧ ((peelDo p t).1.2.2.2.2.1.getD (t.2.2.2.2.1.length + i) tExit.dflt).2.1 = (t.2.2.2.2.1.getD i tExit.dflt).2.1) := by
  have hc0 : checkF p t = 0 := by
    unfold peelDo at he
    split at he
    · assumption
    · rename_i h; exact absurd he h
  have hc := check_iff.1 hc0
  have e0 : peelDo p t = peelR t := by unfold peelDo; rw [if_pos hc0]
  rw [e0] at he ⊢
  unfold peelR at he ⊢
  split at he
  · rename_i hq
    rw [if_pos hq, cut_all hc]
    exact .inl ⟨rfl, fun h => by have := hc.loop0; omega⟩
  · rename_i hq
    rw [if_neg hq]
    refine .inr ⟨by omega, ?_⟩
    have hn0 : 0 < t.2.2.2.1.length := by omega
    obtain ⟨hlen, r, hr, eO⟩ := cut_full he
    obtain ⟨S, hS⟩ := pLoop_ext t t.2.2.2.1 0 (List.replicate t.2.2.2.1.length false) (iota t.2.2.2.1.length)
    have hto : peelTo t = iota t.2.2.2.1.length ++ S := hS
    rw [hto] at hlen hr
    have hx : ∀ (i : Nat) (x : EIns), t.2.2.2.1[i]? = some x → cutInsOk (iota (i + 1)) x = true ∧ cutIns (iota (i + 1)) x = x := fun i x hi => by
      obtain ⟨h1, h2⟩ := hc.ins i x hi
      exact cut_ins h1 h2
    have hpre := cut_pre (loop := (t.2.2.2.1.length : Int)) t.2.2.2.1 (t.2.2.2.1.map (twIns t.2.2.2.1.length t.2.2.2.2.1.length)) S (Int.le_refl _) hx _ 0 0 rfl (Nat.zero_le _)
    have hr : cutLoop (t.2.2.2.1.length : Int) 0 (t.2.2.2.1 ++ t.2.2.2.1.map (twIns t.2.2.2.1.length t.2.2.2.2.1.length)) (iota t.2.2.2.1.length ++ S) [] true 0 [] = some r := hr
    have hpre : cutLoop (t.2.2.2.1.length : Int) 0 (t.2.2.2.1 ++ t.2.2.2.1.map (twIns t.2.2.2.1.length t.2.2.2.2.1.length)) (iota t.2.2.2.1.length ++ S) [] true 0 [] = cutLoop (t.2.2.2.1.length : Int) t.2.2.2.1.length (t.2.2.2.1.map (twIns t.2.2.2.1.length t.2.2.2.2.1.length)) S (iota t.2.2.2.1.length) true 0 t.2.2.2.1 := hpre
    rw [hpre] at hr
    have hSl : S.length = t.2.2.2.1.length := by
      rw [List.length_append, iota_len] at hlen
      have : (twF t).2.2.2.1.length = t.2.2.2.1.length + t.2.2.2.1.length := by simp [twF]
      omega
    obtain ⟨⟨a, ha⟩, ⟨b, hb⟩, _⟩ := cutLoop_ext hr
    have hlo : r.2.2.1 = (t.2.2.2.1.length : Int) := by
      cases hR : t.2.2.2.1.map (twIns t.2.2.2.1.length t.2.2.2.2.1.length) with
      | nil => have := congrArg List.length hR; simp at this; rw [this] at hn0; simp at hn0
      | cons y ys =>
        cases hS' : S with
        | nil => rw [hS'] at hSl; simp at hSl; omega
        | cons z zs =>
          rw [hR, hS'] at hr
          exact cutLoop_at rfl hr
    have hbk := hc.back.2
    have hone : ∀ v, 0 ≤ v → v < ((chkOf p t).2.2.2.2.1.length : Int) → (cutOne r.1 v).1 = v := fun v h0 h1 => by
      rw [ha]
      exact cutOne_pre h0 h1
    rw [eO]
    have eX : (twF t).2.2.2.2.1.map (cutExit r.1) = t.2.2.2.2.1 ++ t.2.2.2.2.1.map (fun x => cutExit r.1 (shExit t.2.2.2.1.length x)) := by
      show (t.2.2.2.2.1 ++ t.2.2.2.2.1.map (shExit t.2.2.2.1.length)).map (cutExit r.1) = _
      rw [List.map_append, List.map_map]
      congr 1
      conv => rhs; rw [← List.map_id t.2.2.2.2.1]
      exact List.map_congr_left fun x hx => cutExit_id (hc.exits x hx) hone
    refine ⟨?_, hn0, ?_, ?_, ?_, ?_, fun i hi => ?_⟩
    · show (if (t.2.2.2.1.length : Int) ≤ 0 then (0 : Int) else if ((twF t).2.2.2.1.length : Int) ≤ (t.2.2.2.1.length : Int) then (r.2.2.2.length : Int) else r.2.2.1) = _
      rw [if_neg (show ¬ (t.2.2.2.1.length : Int) ≤ 0 by omega), if_neg (show ¬ ((twF t).2.2.2.1.length : Int) ≤ (t.2.2.2.1.length : Int) by simp [twF]; omega), hlo]
    · show t.2.2.2.1.length ≤ r.2.2.2.length
      rw [hb, List.length_append]
      omega
    · show ((twF t).2.2.2.2.1.map (cutExit r.1)).length = _
      rw [eX]
      simp
      omega
    · show r.2.2.2.take t.2.2.2.1.length = _
      rw [hb, List.take_left]
    · exact cutExit_id hbk hone
    · show ((twF t).2.2.2.2.1.map (cutExit r.1)).getD i tExit.dflt = _ ∧ (((twF t).2.2.2.2.1.map (cutExit r.1)).getD _ tExit.dflt).1 = _ ∧ (((twF t).2.2.2.2.1.map (cutExit r.1)).getD _ tExit.dflt).2.1 = _
      rw [eX]
      have g1 : (t.2.2.2.2.1 ++ t.2.2.2.2.1.map (fun x => cutExit r.1 (shExit t.2.2.2.1.length x))).getD i tExit.dflt = t.2.2.2.2.1.getD i tExit.dflt := by
        rw [List.getD_eq_getElem?_getD, List.getElem?_append_left hi, ← List.getD_eq_getElem?_getD]
      have g2 : (t.2.2.2.2.1 ++ t.2.2.2.2.1.map (fun x => cutExit r.1 (shExit t.2.2.2.1.length x))).getD (t.2.2.2.2.1.length + i) tExit.dflt = cutExit r.1 (shExit t.2.2.2.1.length (t.2.2.2.2.1.getD i tExit.dflt)) := by
        rw [List.getD_eq_getElem?_getD, List.getElem?_append_right (Nat.le_add_right _ _), Nat.add_sub_cancel_left, List.getElem?_map, List.getD_eq_getElem?_getD, List.getElem?_eq_getElem hi]
        rfl
      rw [g1, g2]
      exact ⟨rfl, rfl, rfl⟩
noncomputable def oc90 : Orc where
  pure := fun f args => match f, args with
    | 15, [] => some (.c (.bool (true)))
    | 16, [a0, a1] => match dA tTrace a0, dA tTrace a1 with
      | some x0, some x1 => some (.c (.bool (decide (x0 = x1))))
      | _, _ => none
    | 27, [a0, a1] => match dA tProg a0, dA tTrace a1 with
      | some x0, some x1 => some (.tup [.agg (Ty.enc tTrace ((peelDo x0 x1).1)), .c (.int .i64 ((peelDo x0 x1).2))])
      | _, _ => none
    | 28, [a0, a1] => match dA (.slice tIns) a0, dA (.slice tIns) a1 with
      | some x0, some x1 => some (.c (.bool (decide (x0 = x1))))
      | _, _ => none
    | 29, [a0, a1] => match dA tExit a0, dA tExit a1 with
      | some x0, some x1 => some (.c (.bool (decide (x0 = x1))))
      | _, _ => none
    | _, _ => none
  heap := fun _ _ _ => none
def peelHead_lv : LV := ⟨(F2 (false :: true :: false :: true :: F2 (true :: F32 (F32 (F2 (false :: true :: true :: F32 (F16 (F2 ([]))))))))), [9]⟩
noncomputable def peelHead_T (p : EProg) (t : ETrace) : Tree :=
  .call 27 [.agg (Ty.enc tProg p), .agg (Ty.enc tTrace t)] false (.tup [.agg (Ty.enc tTrace (peelDo p t).1), .c (.int .i64 (peelDo p t).2)]) <|
  .ite ((!(decide ((peelDo p t).2 = 0))))
  (.call 15 [] false (.c (.bool true)) <|
   .ret (.c (.bool true)) [.cells 39 (Ty.enc tProg p), .cells 29 (Ty.enc tTrace t), .cells 29 (Ty.enc tTrace (peelDo p t).1)])
  (.ite (decide ((0 : Int) < t.2.2.1))
   (.call 15 [] false (.c (.bool true)) <|
    .ite (true)
    (.call 16 [.agg (Ty.enc tTrace (peelDo p t).1), .agg (Ty.enc tTrace t)] false (.c (.bool (decide ((peelDo p t).1 = t)))) <|
     .ret (.c (.bool (decide ((peelDo p t).1 = t)))) [.cells 39 (Ty.enc tProg p), .cells 29 (Ty.enc tTrace t), .cells 29 (Ty.enc tTrace (peelDo p t).1)])
    (.ret (.c (.lit false)) [.cells 39 (Ty.enc tProg p), .cells 29 (Ty.enc tTrace t), .cells 29 (Ty.enc tTrace (peelDo p t).1)]))
   (.ite (decide ((peelDo p t).1.2.2.1 = 0))
    (.call 15 [] false (.c (.bool true)) <|
     .ite (true)
     (.call 16 [.agg (Ty.enc tTrace (peelDo p t).1), .agg (Ty.enc tTrace t)] false (.c (.bool (decide ((peelDo p t).1 = t)))) <|
      .ret (.c (.bool (decide ((peelDo p t).1 = t)))) [.cells 39 (Ty.enc tProg p), .cells 29 (Ty.enc tTrace t), .cells 29 (Ty.enc tTrace (peelDo p t).1)])
     (.ret (.c (.lit false)) [.cells 39 (Ty.enc tProg p), .cells 29 (Ty.enc tTrace t), .cells 29 (Ty.enc tTrace (peelDo p t).1)]))
    (.ite ((!(decide ((peelDo p t).1.2.2.1 = (t.2.2.2.1.length : Int)))))
     (.ret (.c (.lit false)) [.cells 39 (Ty.enc tProg p), .cells 29 (Ty.enc tTrace t), .cells 29 (Ty.enc tTrace (peelDo p t).1)])
     (.ite (decide (((peelDo p t).1.2.2.2.1.length : Int) < (t.2.2.2.1.length : Int)))
      (.ret (.c (.lit false)) [.cells 39 (Ty.enc tProg p), .cells 29 (Ty.enc tTrace t), .cells 29 (Ty.enc tTrace (peelDo p t).1)])
      (.need (inR .i64 (2 * (t.2.2.2.2.1.length : Int))) <|
       .ite ((!(decide (((peelDo p t).1.2.2.2.2.1.length : Int) = (2 * (t.2.2.2.2.1.length : Int))))))
       (.ret (.c (.lit false)) [.cells 39 (Ty.enc tProg p), .cells 29 (Ty.enc tTrace t), .cells 29 (Ty.enc tTrace (peelDo p t).1)])
       (.need ((0 : Int) ≤ (t.2.2.2.1.length : Int) ∧ ((t.2.2.2.1.length : Int) : Int) ≤ ((peelDo p t).1.2.2.2.1.length : Int)) <|
        .call 28 [.c (.ro tIns ((peelDo p t).1.2.2.2.1.take t.2.2.2.1.length)), .c (.ro tIns t.2.2.2.1)] false (.c (.bool (decide (((peelDo p t).1.2.2.2.1.take t.2.2.2.1.length) = t.2.2.2.1)))) <|
        .ite ((!(decide (((peelDo p t).1.2.2.2.1.take t.2.2.2.1.length) = t.2.2.2.1))))
        (.ret (.c (.lit false)) [.cells 39 (Ty.enc tProg p), .cells 29 (Ty.enc tTrace t), .cells 29 (Ty.enc tTrace (peelDo p t).1)])
        (.call 29 [.agg [.int .i64 (peelDo p t).1.2.2.2.2.2.1.1, .int .i64 (peelDo p t).1.2.2.2.2.2.1.2.1, .ro tVal (peelDo p t).1.2.2.2.2.2.1.2.2.1, .ro tMake (peelDo p t).1.2.2.2.2.2.1.2.2.2], .agg [.int .i64 t.2.2.2.2.2.2.1, .int .i64 t.2.2.2.2.2.2.2.1, .ro tVal t.2.2.2.2.2.2.2.2.1, .ro tMake t.2.2.2.2.2.2.2.2.2]] false (.c (.bool (decide ((peelDo p t).1.2.2.2.2.2.1 = t.2.2.2.2.2.2)))) <|
         .ite ((!(decide ((peelDo p t).1.2.2.2.2.2.1 = t.2.2.2.2.2.2))))
         (.ret (.c (.lit false)) [.cells 39 (Ty.enc tProg p), .cells 29 (Ty.enc tTrace t), .cells 29 (Ty.enc tTrace (peelDo p t).1)])
         (.stop (rg (bodyOf Tryd.f9) 9) (J2 (.junk :: .c (.ptr 1 0 0 0) :: .junk :: .c (.ptr 2 0 0 0) :: J2 (.c (.int .i64 (t.2.2.2.2.1.length : Int)) :: J32 (J32 (J32 (J16 (J4 (J2 (.junk :: []))))))))) [.cells 39 (Ty.enc tProg p), .cells 29 (Ty.enc tTrace t), .cells 29 (Ty.enc tTrace (peelDo p t).1)]))))))))
theorem peelHead_T_ok (p : EProg) (t : ETrace) : aRun Tryd.prog oc90 Tryd.f9 peelHead_lv 3000 [.code (bodyOf Tryd.f9)] ([.agg (tProg.enc p), .agg (tTrace.enc t)] ++ List.replicate (Func.ntmps Tryd.f9 - 2) .junk) [] = peelHead_T p t := by kernel_rfl
noncomputable def peelHead_l0_R (p : EProg) (t : ETrace) (i : Nat) : Tree :=
  .ite (decide (((i : Nat) : Int) < (t.2.2.2.2.1.length : Int)))
  (.need ((0 : Int) ≤ ((i : Nat) : Int) ∧ (((i : Nat) : Int) : Int) < ((peelDo p t).1.2.2.2.2.1.length : Int)) <|
   .need (i < (peelDo p t).1.2.2.2.2.1.length) <|
   .need ((0 : Int) ≤ ((i : Nat) : Int) ∧ (((i : Nat) : Int) : Int) < (t.2.2.2.2.1.length : Int)) <|
   .need (i < t.2.2.2.2.1.length) <|
   .call 29 [.agg [.int .i64 ((peelDo p t).1.2.2.2.2.1.getD i tExit.dflt).1, .int .i64 ((peelDo p t).1.2.2.2.2.1.getD i tExit.dflt).2.1, .ro tVal ((peelDo p t).1.2.2.2.2.1.getD i tExit.dflt).2.2.1, .ro tMake ((peelDo p t).1.2.2.2.2.1.getD i tExit.dflt).2.2.2], .agg [.int .i64 (t.2.2.2.2.1.getD i tExit.dflt).1, .int .i64 (t.2.2.2.2.1.getD i tExit.dflt).2.1, .ro tVal (t.2.2.2.2.1.getD i tExit.dflt).2.2.1, .ro tMake (t.2.2.2.2.1.getD i tExit.dflt).2.2.2]] false (.c (.bool (decide (((peelDo p t).1.2.2.2.2.1.getD i tExit.dflt) = (t.2.2.2.2.1.getD i tExit.dflt))))) <|
   .ite ((!(decide (((peelDo p t).1.2.2.2.2.1.getD i tExit.dflt) = (t.2.2.2.2.1.getD i tExit.dflt)))))
   (.ret (.c (.lit false)) [.cells 29 (Ty.enc tTrace t), .cells 29 (Ty.enc tTrace (peelDo p t).1)])
   (.need (inR .i64 ((t.2.2.2.2.1.length : Int) + ((i : Nat) : Int))) <|
    .need ((0 : Int) ≤ ((t.2.2.2.2.1.length : Int) + ((i : Nat) : Int)) ∧ (((t.2.2.2.2.1.length : Int) + ((i : Nat) : Int)) : Int) < ((peelDo p t).1.2.2.2.2.1.length : Int)) <|
    .need ((Int.toNat ((t.2.2.2.2.1.length : Int) + ((i : Nat) : Int))) < (peelDo p t).1.2.2.2.2.1.length) <|
    .need ((0 : Int) ≤ ((i : Nat) : Int) ∧ (((i : Nat) : Int) : Int) < (t.2.2.2.2.1.length : Int)) <|
    .need (i < t.2.2.2.2.1.length) <|
    .ite ((!(decide (((peelDo p t).1.2.2.2.2.1.getD (Int.toNat ((t.2.2.2.2.1.length : Int) + ((i : Nat) : Int))) tExit.dflt).1 = (t.2.2.2.2.1.getD i tExit.dflt).1))))
    (.ret (.c (.lit false)) [.cells 29 (Ty.enc tTrace t), .cells 29 (Ty.enc tTrace (peelDo p t).1)])
    (.need (inR .i64 ((t.2.2.2.2.1.length : Int) + ((i : Nat) : Int))) <|
     .need ((0 : Int) ≤ ((t.2.2.2.2.1.length : Int) + ((i : Nat) : Int)) ∧ (((t.2.2.2.2.1.length : Int) + ((i : Nat) : Int)) : Int) < ((peelDo p t).1.2.2.2.2.1.length : Int)) <|
     .need ((Int.toNat ((t.2.2.2.2.1.length : Int) + ((i : Nat) : Int))) < (peelDo p t).1.2.2.2.2.1.length) <|
     .need ((0 : Int) ≤ ((i : Nat) : Int) ∧ (((i : Nat) : Int) : Int) < (t.2.2.2.2.1.length : Int)) <|
     .need (i < t.2.2.2.2.1.length) <|
     .ite ((!(decide (((peelDo p t).1.2.2.2.2.1.getD (Int.toNat ((t.2.2.2.2.1.length : Int) + ((i : Nat) : Int))) tExit.dflt).2.1 = (t.2.2.2.2.1.getD i tExit.dflt).2.1))))
     (.ret (.c (.lit false)) [.cells 29 (Ty.enc tTrace t), .cells 29 (Ty.enc tTrace (peelDo p t).1)])
     (.need (inR .i64 (((i : Nat) : Int) + 1)) <|
      .stop (lp (bodyOf Tryd.f9) 0) (J2 (.junk :: .c (.ptr 0 0 0 0) :: .junk :: .c (.ptr 1 0 0 0) :: J2 (.c (.int .i64 (t.2.2.2.2.1.length : Int)) :: J32 (J32 (J2 (.junk :: .c (.int .i64 (t.2.2.2.2.1.length : Int)) :: .c (.int .i64 (((i : Nat) : Int) + 1)) :: J32 (J16 (J2 ([]))))))))) [.cells 29 (Ty.enc tTrace t), .cells 29 (Ty.enc tTrace (peelDo p t).1)]))))
  (.call 15 [] false (.c (.bool true)) <|
   .ret (.c (.bool true)) [.cells 29 (Ty.enc tTrace t), .cells 29 (Ty.enc tTrace (peelDo p t).1)])
theorem peelHead_l0_R_ok (p : EProg) (t : ETrace) (i : Nat) : aRound Tryd.prog oc90 Tryd.f9 peelHead_lv 3000 (lp (bodyOf Tryd.f9) 0) (J2 (.junk :: .c (.ptr 0 0 0 0) :: .junk :: .c (.ptr 1 0 0 0) :: J2 (.c (.int .i64 (t.2.2.2.2.1.length : Int)) :: J32 (J32 (J2 (.junk :: .c (.int .i64 (t.2.2.2.2.1.length : Int)) :: .c (.int .i64 ((i : Nat) : Int)) :: J32 (J16 (J2 ([]))))))))) [.cells 29 (Ty.enc tTrace t), .cells 29 (Ty.enc tTrace (peelDo p t).1)] = peelHead_l0_R p t i := by kernel_rfl
noncomputable def peelHead_r9_R (p : EProg) (t : ETrace) : Tree :=
  .stop (lp (bodyOf Tryd.f9) 0) (J2 (.junk :: .c (.ptr 0 0 0 0) :: .junk :: .c (.ptr 1 0 0 0) :: J2 (.c (.int .i64 (t.2.2.2.2.1.length : Int)) :: J32 (J32 (J2 (.junk :: .c (.int .i64 (t.2.2.2.2.1.length : Int)) :: .c (.int .i64 0) :: J32 (J16 (J2 ([]))))))))) [.cells 29 (Ty.enc tTrace t), .cells 29 (Ty.enc tTrace (peelDo p t).1)]
theorem peelHead_r9_R_ok (p : EProg) (t : ETrace) : aRound Tryd.prog oc90 Tryd.f9 peelHead_lv 3000 (rg (bodyOf Tryd.f9) 9) (J2 (.junk :: .c (.ptr 0 0 0 0) :: .junk :: .c (.ptr 1 0 0 0) :: J2 (.c (.int .i64 (t.2.2.2.2.1.length : Int)) :: J32 (J32 (J32 (J16 (J4 (J2 (.junk :: []))))))))) [.cells 29 (Ty.enc tTrace t), .cells 29 (Ty.enc tTrace (peelDo p t).1)] = peelHead_r9_R p t := by kernel_rfl
theorem peelHead_l0 (p : EProg) (t : ETrace) (i : Nat) (hm : t.2.2.2.2.1.length ≤ 200) (hx : (peelDo p t).1.2.2.2.2.1.length = 2 * t.2.2.2.2.1.length) (hf : ∀ i, i < t.2.2.2.2.1.length → (peelDo p t).1.2.2.2.2.1.getD i tExit.dflt = t.2.2.2.2.1.getD i tExit.dflt ∧ ((peelDo p t).1.2.2.2.2.1.getD (t.2.2.2.2.1.length + i) tExit.dflt).1 = (t.2.2.2.2.1.getD i tExit.dflt).1 ∧ ((peelDo p t).1.2.2.2.2.1.getD (t.2.2.2.2.1.length + i) tExit.dflt).2.1 = (t.2.2.2.2.1.getD i tExit.dflt).2.1)  : Run Tryd.prog 9 (retQ Tryd.prog (.c (.bool (true)))) (lp (bodyOf Tryd.f9) 0) (J2 (.junk :: .c (.ptr 0 0 0 0) :: .junk :: .c (.ptr 1 0 0 0) :: J2 (.c (.int .i64 (t.2.2.2.2.1.length : Int)) :: J32 (J32 (J2 (.junk :: .c (.int .i64 (t.2.2.2.2.1.length : Int)) :: .c (.int .i64 ((i : Nat) : Int)) :: J32 (J16 (J2 ([]))))))))) [.cells 29 (Ty.enc tTrace t), .cells 29 (Ty.enc tTrace (peelDo p t).1)] :=
  Run.roundA oc90 peelHead_lv 3000 Tryd.func9 mixed (peelHead_l0_R p t i) (peelHead_l0_R_ok p t i) (by
    unfold peelHead_l0_R
    refine g_iteD (fun h0 => ?_) (fun h0 => ?_)
    · refine g_need (by omega) ?_
      refine g_need (by omega) ?_
      refine g_need (by omega) ?_
      refine g_need (by omega) ?_
      refine g_call (sameX_fun ((peelDo p t).1.2.2.2.2.1.getD i tExit.dflt) (t.2.2.2.2.1.getD i tExit.dflt)) (fun h => nomatch h) ?_
      refine g_iteND (fun h1 => ?_) (fun h1 => ?_)
      · refine g_rq ?_
        exact g_rl ((show (false : Bool) = true from by exfalso; have q := hf i (by omega); have e : Int.toNat ((t.2.2.2.2.1.length : Int) + ((i : Nat) : Int)) = t.2.2.2.2.1.length + i := (by omega); first | exact h1 q.1 | (rw [e] at h2; exact h2 q.2.1) | (rw [e] at h3; exact h3 q.2.2))) rfl
      · refine g_need (by first | omega | (rw [i64_iff]; omega) | (rw [i64_iff]; constructor <;> omega) | (constructor <;> omega)) ?_
        refine g_need (by omega) ?_
        refine g_need (by omega) ?_
        refine g_need (by omega) ?_
        refine g_need (by omega) ?_
        refine g_iteND (fun h2 => ?_) (fun h2 => ?_)
        · refine g_rq ?_
          exact g_rl ((show (false : Bool) = true from by exfalso; have q := hf i (by omega); have e : Int.toNat ((t.2.2.2.2.1.length : Int) + ((i : Nat) : Int)) = t.2.2.2.2.1.length + i := (by omega); first | exact h1 q.1 | (rw [e] at h2; exact h2 q.2.1) | (rw [e] at h3; exact h3 q.2.2))) rfl
        · refine g_need (by first | omega | (rw [i64_iff]; omega) | (rw [i64_iff]; constructor <;> omega) | (constructor <;> omega)) ?_
          refine g_need (by omega) ?_
          refine g_need (by omega) ?_
          refine g_need (by omega) ?_
          refine g_need (by omega) ?_
          refine g_iteND (fun h3 => ?_) (fun h3 => ?_)
          · refine g_rq ?_
            exact g_rl ((show (false : Bool) = true from by exfalso; have q := hf i (by omega); have e : Int.toNat ((t.2.2.2.2.1.length : Int) + ((i : Nat) : Int)) = t.2.2.2.2.1.length + i := (by omega); first | exact h1 q.1 | (rw [e] at h2; exact h2 q.2.1) | (rw [e] at h3; exact h3 q.2.2))) rfl
          · refine g_need (by first | omega | (rw [i64_iff]; omega) | (rw [i64_iff]; constructor <;> omega) | (constructor <;> omega)) ?_
            refine g_stop (RunN.keep [0, 1] (F2 (false :: true :: false :: true :: F2 (true :: F32 (F32 (F2 (false :: true :: true :: F32 (F16 (F2 ([]))))))))) n0 (by decide) rfl rfl ?_)
            exact peelHead_l0 p t (i + 1) hm hx hf
    · refine g_call (irred_fun) (fun h => nomatch h) ?_
      refine g_rq ?_
      exact g_rl (leAV.refl _) rfl
    )
  termination_by t.2.2.2.2.1.length - i
  decreasing_by all_goals omega
theorem peelHead_r9 (p : EProg) (t : ETrace) (hm : t.2.2.2.2.1.length ≤ 200) (hx : (peelDo p t).1.2.2.2.2.1.length = 2 * t.2.2.2.2.1.length) (hf : ∀ i, i < t.2.2.2.2.1.length → (peelDo p t).1.2.2.2.2.1.getD i tExit.dflt = t.2.2.2.2.1.getD i tExit.dflt ∧ ((peelDo p t).1.2.2.2.2.1.getD (t.2.2.2.2.1.length + i) tExit.dflt).1 = (t.2.2.2.2.1.getD i tExit.dflt).1 ∧ ((peelDo p t).1.2.2.2.2.1.getD (t.2.2.2.2.1.length + i) tExit.dflt).2.1 = (t.2.2.2.2.1.getD i tExit.dflt).2.1)  : Run Tryd.prog 9 (retQ Tryd.prog (.c (.bool (true)))) (rg (bodyOf Tryd.f9) 9) (J2 (.junk :: .c (.ptr 0 0 0 0) :: .junk :: .c (.ptr 1 0 0 0) :: J2 (.c (.int .i64 (t.2.2.2.2.1.length : Int)) :: J32 (J32 (J32 (J16 (J4 (J2 (.junk :: []))))))))) [.cells 29 (Ty.enc tTrace t), .cells 29 (Ty.enc tTrace (peelDo p t).1)] :=
  Run.roundA oc90 peelHead_lv 3000 Tryd.func9 mixed (peelHead_r9_R p t) (peelHead_r9_R_ok p t) (by
    unfold peelHead_r9_R
    refine g_stop (RunN.keep [0, 1] (F2 (false :: true :: false :: true :: F2 (true :: F32 (F32 (F2 (false :: true :: true :: F32 (F16 (F2 ([]))))))))) n0 (by decide) rfl rfl ?_)
    exact peelHead_l0 p t 0 hm hx hf
    )
theorem peel_small {p : EProg} {t : ETrace} (he : (peelDo p t).2 = 0) : t.2.2.2.1.length ≤ 300 ∧ t.2.2.2.2.1.length ≤ 200 := by
  unfold peelDo at he
  split at he
  · rename_i h; exact ⟨(check_iff.1 h).n, (check_iff.1 h).m⟩
  · rename_i h; exact absurd he h
theorem peelHead_fun (p : EProg) (t : ETrace) : AFun Tryd.prog 9 [.agg (tProg.enc p), .agg (tTrace.enc t)] (.c (.bool (true))) :=
  AFun.of oc90 peelHead_lv 3000 Tryd.func9 mixed rfl (by decide) (Nat.le_of_ble_eq_true rfl) _ (peelHead_T_ok p t) fun hF => by
    unfold peelHead_T
    refine g_call (peeldo_fun p t) (fun h => nomatch h) ?_
    refine g_iteND (fun h0 => ?_) (fun h0 => ?_)
    · refine g_call (irred_fun) (fun h => nomatch h) ?_
      refine g_rq ?_
      exact g_rl (leAV.refl _) rfl
    · refine g_iteD (fun h1 => ?_) (fun h1 => ?_)
      · refine g_call (irred_fun) (fun h => nomatch h) ?_
        refine g_ite (fun h2 => ?_) (fun h2 => ?_)
        · refine g_call (sameT_fun (peelDo p t).1 t) (fun h => nomatch h) ?_
          refine g_rq ?_
          exact g_rl ((show (decide ((peelDo p t).1 = t) : Bool) = true from by rcases peel_facts h0 with ⟨e, hz⟩ | ⟨q0, q1, q2, q3, q4, q5, q6, q7⟩ <;> first | exact decide_eq_true e | (exfalso; contradiction) | (exfalso; have := hz h1; rw [e] at h2; exact h2 this) | (exfalso; omega) | exact absurd q5 (by assumption) | exact absurd q6 (by assumption))) rfl
        · refine g_rq ?_
          exact g_rl ((show (false : Bool) = true from by rcases peel_facts h0 with ⟨e, hz⟩ | ⟨q0, q1, q2, q3, q4, q5, q6, q7⟩ <;> first | exact decide_eq_true e | (exfalso; contradiction) | (exfalso; have := hz h1; rw [e] at h2; exact h2 this) | (exfalso; omega) | exact absurd q5 (by assumption) | exact absurd q6 (by assumption))) rfl
      · refine g_iteD (fun h2 => ?_) (fun h2 => ?_)
        · refine g_call (irred_fun) (fun h => nomatch h) ?_
          refine g_ite (fun h3 => ?_) (fun h3 => ?_)
          · refine g_call (sameT_fun (peelDo p t).1 t) (fun h => nomatch h) ?_
            refine g_rq ?_
            exact g_rl ((show (decide ((peelDo p t).1 = t) : Bool) = true from by rcases peel_facts h0 with ⟨e, hz⟩ | ⟨q0, q1, q2, q3, q4, q5, q6, q7⟩ <;> first | exact decide_eq_true e | (exfalso; contradiction) | (exfalso; have := hz h1; rw [e] at h2; exact h2 this) | (exfalso; omega) | exact absurd q5 (by assumption) | exact absurd q6 (by assumption))) rfl
          · refine g_rq ?_
            exact g_rl ((show (false : Bool) = true from by rcases peel_facts h0 with ⟨e, hz⟩ | ⟨q0, q1, q2, q3, q4, q5, q6, q7⟩ <;> first | exact decide_eq_true e | (exfalso; contradiction) | (exfalso; have := hz h1; rw [e] at h2; exact h2 this) | (exfalso; omega) | exact absurd q5 (by assumption) | exact absurd q6 (by assumption))) rfl
        · refine g_iteND (fun h3 => ?_) (fun h3 => ?_)
          · refine g_rq ?_
            exact g_rl ((show (false : Bool) = true from by rcases peel_facts h0 with ⟨e, hz⟩ | ⟨q0, q1, q2, q3, q4, q5, q6, q7⟩ <;> first | exact decide_eq_true e | (exfalso; contradiction) | (exfalso; have := hz h1; rw [e] at h2; exact h2 this) | (exfalso; omega) | exact absurd q5 (by assumption) | exact absurd q6 (by assumption))) rfl
          · refine g_iteD (fun h4 => ?_) (fun h4 => ?_)
            · refine g_rq ?_
              exact g_rl ((show (false : Bool) = true from by rcases peel_facts h0 with ⟨e, hz⟩ | ⟨q0, q1, q2, q3, q4, q5, q6, q7⟩ <;> first | exact decide_eq_true e | (exfalso; contradiction) | (exfalso; have := hz h1; rw [e] at h2; exact h2 this) | (exfalso; omega) | exact absurd q5 (by assumption) | exact absurd q6 (by assumption))) rfl
            · refine g_need (by first | omega | (have := (peel_small h0).1; have := (peel_small h0).2; first | omega | (rw [i64_iff]; omega)) | (rcases peel_facts h0 with ⟨e, hz⟩ | ⟨q0, q1, q2, q3, q4, q5, q6, q7⟩ <;> first | omega | (exfalso; have := hz h1; rw [e] at h2; exact h2 this) | (constructor <;> omega))) ?_
              refine g_iteND (fun h5 => ?_) (fun h5 => ?_)
              · refine g_rq ?_
                exact g_rl ((show (false : Bool) = true from by rcases peel_facts h0 with ⟨e, hz⟩ | ⟨q0, q1, q2, q3, q4, q5, q6, q7⟩ <;> first | exact decide_eq_true e | (exfalso; contradiction) | (exfalso; have := hz h1; rw [e] at h2; exact h2 this) | (exfalso; omega) | exact absurd q5 (by assumption) | exact absurd q6 (by assumption))) rfl
              · refine g_need (by first | omega | (have := (peel_small h0).1; have := (peel_small h0).2; first | omega | (rw [i64_iff]; omega)) | (rcases peel_facts h0 with ⟨e, hz⟩ | ⟨q0, q1, q2, q3, q4, q5, q6, q7⟩ <;> first | omega | (exfalso; have := hz h1; rw [e] at h2; exact h2 this) | (constructor <;> omega))) ?_
                refine g_call (eqIns_fun ((peelDo p t).1.2.2.2.1.take t.2.2.2.1.length) t.2.2.2.1) (fun h => nomatch h) ?_
                refine g_iteND (fun h6 => ?_) (fun h6 => ?_)
                · refine g_rq ?_
                  exact g_rl ((show (false : Bool) = true from by rcases peel_facts h0 with ⟨e, hz⟩ | ⟨q0, q1, q2, q3, q4, q5, q6, q7⟩ <;> first | exact decide_eq_true e | (exfalso; contradiction) | (exfalso; have := hz h1; rw [e] at h2; exact h2 this) | (exfalso; omega) | exact absurd q5 (by assumption) | exact absurd q6 (by assumption))) rfl
                · refine g_call (sameX_fun (peelDo p t).1.2.2.2.2.2.1 t.2.2.2.2.2.2) (fun h => nomatch h) ?_
                  refine g_iteND (fun h7 => ?_) (fun h7 => ?_)
                  · refine g_rq ?_
                    exact g_rl ((show (false : Bool) = true from by rcases peel_facts h0 with ⟨e, hz⟩ | ⟨q0, q1, q2, q3, q4, q5, q6, q7⟩ <;> first | exact decide_eq_true e | (exfalso; contradiction) | (exfalso; have := hz h1; rw [e] at h2; exact h2 this) | (exfalso; omega) | exact absurd q5 (by assumption) | exact absurd q6 (by assumption))) rfl
                  · refine g_stop (RunN.keep [1, 2] (F2 (false :: true :: false :: true :: F2 (true :: F32 (F32 (F32 (F16 (F4 (F2 (false :: []))))))))) n0 (by decide) rfl rfl ?_)
                    rcases peel_facts h0 with ⟨e, hz⟩ | ⟨q0, q1, q2, q3, q4, q5, q6, q7⟩
                    · exfalso; have := hz h1; rw [e] at h2; exact h2 this
                    · exact peelHead_r9 p t  (peel_small h0).2 q4 q7

end Go.Proofs.YtefkifdhjabdiaaDoor
