/- What the laws' texts lean on, part 5: lemmas and the contracts of functions. No condition. -/
import Derived.Test.YtkonkblfckhcbaaGreatDoorM3
namespace Go.Proofs.YtkonkblfckhcbaaGreatDoor
set_option maxHeartbeats 4000000
set_option linter.unusedVariables false
set_option linter.unusedSimpArgs false
set_option maxRecDepth 100000
def cwithinF (n : Int) (low : Int) (high : Int) : Bool :=
 if low ≤ n then
  decide (n ≤ high)
 else
  false
noncomputable def ocKa : Orc where
 pure := fun f args => match f, args with
  | _, _ => none
 heap := fun _ _ _ => none
def cwithin_lv : LV := ⟨([]), []⟩
noncomputable def cwithin_T (n : Int) (low : Int) (high : Int) : Tree :=
 .ite (decide (low ≤ n))
 (.ret (.c (.bool (decide (n ≤ high)))) [])
 (.ret (.c (.lit false)) [])
theorem cwithin_fun (n : Int) (low : Int) (high : Int) : AFun Tryz.prog 113 [.c (.int .i64 n), .c (.int .i64 low), .c (.int .i64 high)] (.c (.bool (cwithinF n low high))) :=
 AFun.of ocKa cwithin_lv 3000 Tryz.func113 mixed rfl (by decide) (Nat.le_of_ble_eq_true rfl) (cwithin_T n low high) (by kernel_rfl) fun hF => by
  unfold cwithin_T
  refine e_start (cwithinF.eq_1 n low high) ?_
  repeat' first
   | with_reducible refine e_D (fun _ => ?_) (fun _ => ?_)
   | exact e_rb
   | exact e_rl

theorem right_ref {v : EVal} (h : rightVF v = true) (hk : v.1 = 5) : 0 ≤ v.2 := by
 unfold rightVF at h
 simp [hk] at h
 exact h
def fitsF (v : EVal) (s : EState) : Bool :=
 if (rightVF v) = true then
  if v.1 = 4 then
   decide (v.2 < (s.2.2.1.length : Int))
  else
   if v.1 = 5 then
    if v.2 < (s.1.length : Int) then
     (!(decide ((s.1.getD (Int.toNat v.2) tCell.dflt).1 = 0)))
    else
     false
   else
    true
 else
  false
noncomputable def ocKb : Orc where
 pure := fun f args => match f, args with
  | 130, [a0] => match dA tVal a0 with
   | some x0 => some (.c (.bool (rightVF x0)))
   | _ => none
  | _, _ => none
 heap := fun _ _ _ => none
def fits_lv : LV := ⟨([]), []⟩
abbrev gJc5 (s : EState) (v : EVal) : List AB := [.cells 40 (Ty.enc tState s), .cells 48 (Ty.enc tVal v)]
noncomputable def fits_T (v : EVal) (s : EState) : Tree :=
 .call 130 [.agg (Ty.enc tVal v)] false (.c (.bool (rightVF v))) <|
 .ite ((!(rightVF v)))
 (.ret (.c (.lit false)) (gJc5 s v))
 (.ite (decide (v.1 = 4))
  (.ret (.c (.bool (decide (v.2 < (s.2.2.1.length : Int))))) (gJc5 s v))
  (.ite (decide (v.1 = 5))
  (.ite (decide (v.2 < (s.1.length : Int)))
   (.need ((0 : Int) ≤ v.2 ∧ (v.2 : Int) < (s.1.length : Int)) <|
   .need ((Int.toNat v.2) < s.1.length) <|
   .ret (.c (.bool (!(decide ((s.1.getD (Int.toNat v.2) tCell.dflt).1 = 0))))) (gJc5 s v))
   (.ret (.c (.lit false)) (gJc5 s v)))
  (.ret (.c (.lit true)) (gJc5 s v))))
theorem fits_fun (v : EVal) (s : EState) : AFunH Tryz.prog 110 [.c (.ptr 0 0 0 0), .agg (tVal.enc v)] [.cells 40 (Ty.enc tState s)] (.c (.bool (fitsF v s))) [.cells 40 (Ty.enc tState s)] (List.range 1) :=
 AFunH.of ocKb fits_lv 3000 Tryz.func110 mixed rfl (by decide) (Nat.le_of_ble_eq_true rfl) rfl rfl (Nat.le_refl _) (fits_T v s) (by kernel_rfl) fun hF => by
  unfold fits_T
  refine e_start (fitsF.eq_1 v s) ?_
  repeat' first
   | with_reducible refine e_D (fun _ => ?_) (fun _ => ?_)
   | with_reducible refine e_NB (fun _ => ?_) (fun _ => ?_)
   | refine e_need (by first | omega | (constructor <;> omega) | (have hq := right_ref (by assumption) (by assumption); first | omega | (constructor <;> omega)) | rfl) ?_
   | refine e_call (rightV_fun v) (fun h => nomatch h) ?_
   | exact fun hE => g_rh [0] (kk rfl) (by decide) (by simp only [renA, ren1, renC, leAV, leA1, leC]; first | exact hE.symm | exact ⟨rfl, hE.symm⟩ | exact ⟨trivial, hE.symm⟩) rfl

theorem fits_right {v : EVal} {s : EState} (h : fitsF v s = true) : rightVF v = true := by
 unfold fitsF at h
 by_cases hr : rightVF v = true
 ·exact hr
 ·simp [hr] at h
theorem fits_ref {v : EVal} {s : EState} (h : fitsF v s = true) (hk : v.1 = 5) : 0 ≤ v.2 ∧ v.2 < (s.1.length : Int) := by
 have hr := fits_right h
 have h0 := right_ref hr hk
 unfold fitsF at h
 simp only [hr, hk, if_true, Int.reduceEq, reduceIte, if_false] at h
 refine ⟨h0, ?_⟩
 by_cases hl : v.2 < (s.1.length : Int)
 ·exact hl
 ·simp [hl] at h
def iscF (v : EVal) (kind : Int) (s : EState) : Bool :=
 if fitsF v s = true then
  if v.1 = 5 then
   decide ((s.1.getD (Int.toNat v.2) tCell.dflt).1 = kind)
  else
   false
 else
  false
noncomputable def ocKc : Orc where
 pure := fun f args => match f, args with
  | _, _ => none
 heap := fun f args H => match f, args with
  | 110, [.one (.c (.ptr b0 0 0 0)), a1] => (match cellsAs 40 H[b0]? with
   | some c0 => (match dA tVal a1, dCs tState c0 with
    | some x1, some y0_0 => hres [b0] H (.c (.bool (fitsF x1 y0_0))) [.cells 40 (Ty.enc tState y0_0)]
    | _, _ => none)
   | _ => none)
  | _, _ => none
def isc_lv : LV := ⟨([]), []⟩
noncomputable def isc_T (v : EVal) (kind : Int) (s : EState) : Tree :=
 .callH 110 [.c (.ptr 0 0 0 0), .agg (Ty.enc tVal v)] (gJc5 s v) (.c (.bool (fitsF v s))) (gJc5 s v) [0] <|
 .ite (fitsF v s)
 (.ite (decide (v.1 = 5))
  (.need ((0 : Int) ≤ v.2 ∧ (v.2 : Int) < (s.1.length : Int)) <|
  .need ((Int.toNat v.2) < s.1.length) <|
  .ret (.c (.bool (decide ((s.1.getD (Int.toNat v.2) tCell.dflt).1 = kind)))) (gJc5 s v))
  (.ret (.c (.lit false)) (gJc5 s v)))
 (.ret (.c (.lit false)) (gJc5 s v))
theorem isc_fun (v : EVal) (kind : Int) (s : EState) : AFunH Tryz.prog 114 [.c (.ptr 0 0 0 0), .agg (tVal.enc v), .c (.int .i64 kind)] [.cells 40 (Ty.enc tState s)] (.c (.bool (iscF v kind s))) [.cells 40 (Ty.enc tState s)] (List.range 1) :=
 AFunH.of ocKc isc_lv 3000 Tryz.func114 mixed rfl (by decide) (Nat.le_of_ble_eq_true rfl) rfl rfl (Nat.le_refl _) (isc_T v kind s) (by kernel_rfl) fun hF => by
  unfold isc_T
  refine e_start (iscF.eq_1 v kind s) ?_
  repeat' first
   | with_reducible refine e_B (fun _ => ?_) (fun _ => ?_)
   | with_reducible refine e_D (fun _ => ?_) (fun _ => ?_)
   | refine e_need (by first | omega | (constructor <;> omega) | (have hq := fits_ref (by assumption) (by assumption); first | omega | (constructor <;> omega)) | rfl) ?_
   | refine e_callH (AFunH.frameB [0] (fits_fun v s) rfl rfl rfl rfl rfl rfl rfl) ?_
   | exact fun hE => g_rh [0] (kk rfl) (by decide) (by simp only [renA, ren1, renC, leAV, leA1, leC]; first | exact hE.symm | exact ⟨rfl, hE.symm⟩ | exact ⟨trivial, hE.symm⟩) rfl

def all1F (v : EVal) (s : EState) : Bool :=
 (!(fitsF v s))
noncomputable def ocKd : Orc where
 pure := fun f args => match f, args with
  | _, _ => none
 heap := fun f args H => match f, args with
  | 110, [.one (.c (.ptr b0 0 0 0)), a1] => (match cellsAs 40 H[b0]? with
   | some c0 => (match dA tVal a1, dCs tState c0 with
    | some x1, some y0_0 => hres [b0] H (.c (.bool (fitsF x1 y0_0))) [.cells 40 (Ty.enc tState y0_0)]
    | _, _ => none)
   | _ => none)
  | _, _ => none
def all1_lv : LV := ⟨([]), []⟩
abbrev gJc2 (s : EState) (v : EVal) : List AB := [.cells 118 [.ptr 1 0 0 0], .cells 40 (Ty.enc tState s), .cells 48 (Ty.enc tVal v)]
noncomputable def all1_T (v : EVal) (s : EState) : Tree :=
 .callH 110 [.c (.ptr 1 0 0 0), .agg (Ty.enc tVal v)] (gJc2 s v) (.c (.bool (fitsF v s))) (gJc2 s v) [1] <|
 .ret (.c (.bool (!(fitsF v s)))) (gJc2 s v)
abbrev gJc4 (s : EState) : List AB := [.cells 118 [.ptr 1 0 0 0], .cells 40 (Ty.enc tState s)]
theorem all1_fun (v : EVal) (s : EState) : AFunH Tryz.prog 202 [.agg (tVal.enc v), .c (.ptr 0 0 0 0)] (gJc4 s) (.c (.bool (all1F v s))) (gJc4 s) (List.range 2) :=
 AFunH.of ocKd all1_lv 3000 Tryz.func202 mixed rfl (by decide) (Nat.le_of_ble_eq_true rfl) rfl rfl (Nat.le_refl _) (all1_T v s) (by kernel_rfl) fun hF => by
  unfold all1_T
  refine e_start (all1F.eq_1 v s) ?_
  repeat' first
   | refine e_callH (AFunH.frameB [1] (fits_fun v s) rfl rfl rfl rfl rfl rfl rfl) ?_
   | exact fun hE => g_rh [0, 1] (kk rfl) (by decide) (by simp only [renA, ren1, renC, leAV, leA1, leC]; first | exact hE.symm | exact ⟨rfl, hE.symm⟩ | exact ⟨trivial, hE.symm⟩) rfl

noncomputable def ocKe : Orc where
 pure := fun f args => match f, args with
  | _, _ => none
 heap := fun f args H => match f, args with
  | 202, [a0, .one (.c (.ptr b0 0 0 0))] => (match cellsAs 118 H[b0]? with
   | some [.ptr b1 0 0 0] => (match cellsAs 40 H[b1]? with
   | some c1 => (match dA tVal a0, dCs tState c1 with
    | some x0, some y1_0 => hres [b0, b1] H (.c (.bool (all1F x0 y1_0))) [.cells 118 [.ptr 1 0 0 0], .cells 40 (Ty.enc tState y1_0)]
    | _, _ => none)
   | _ => none)
   | _ => none)
  | _, _ => none
def jAllI_lv : LV := ⟨(true :: true :: F4 (false :: true :: true :: F8 (F2 ([])))), []⟩
noncomputable def jAllI_T (l : List EVal) (s : EState) : Tree :=
 .stop (lp (bodyOf Tryz.f162) 0) (.c (.ro tVal l) :: .c (.fnc (.fn0 202) (.ptr 0 0 0 0)) :: J4 (.junk :: .c (.int .i64 (l.length : Int)) :: .c (.int .i64 0) :: J8 (J2 ([])))) (gJc4 s)
abbrev gJc3 (l : List EVal) (i : Nat) : List AV := (.junk :: .c (.int .i64 (l.length : Int)) :: .c (.int .i64 (((i : Nat) : Int) + 1)) :: J8 (J2 ([])))
noncomputable def jAllI_l0_R (l : List EVal) (s : EState) (i : Nat) : Tree :=
 .ite (decide (((i : Nat) : Int) < (l.length : Int)))
 (.need ((0 : Int) ≤ ((i : Nat) : Int) ∧ (((i : Nat) : Int) : Int) < (l.length : Int)) <|
  .need (i < l.length) <|
  .callH 202 [.agg (Ty.enc tVal (l.getD i tVal.dflt)), .c (.ptr 0 0 0 0)] (gJc4 s) (.c (.bool (all1F (l.getD i tVal.dflt) s))) (gJc4 s) [0, 1] <|
  .ite (all1F (l.getD i tVal.dflt) s)
  (.ret (.c (.int .i64 ((i : Nat) : Int))) (gJc4 s))
  (.need (inR .i64 (((i : Nat) : Int) + 1)) <|
  .stop (lp (bodyOf Tryz.f162) 0) (.c (.ro tVal l) :: .c (.fnc (.fn0 202) (.ptr 0 0 0 0)) :: J4 (gJc3 l i)) (gJc4 s)))
 (.ret (.c (.int .i64 (-1))) (gJc4 s))
theorem jAllI_l0 (l : List EVal) (s : EState) (i : Nat) (hl : l.length ≤ 9223372036854775807) : RunN 2 Tryz.prog 162 (retH 2 (.c (.int .i64 (fstG (fun v => all1F v s) i (l.drop i)))) (gJc4 s)) (lp (bodyOf Tryz.f162) 0) (.c (.ro tVal l) :: .c (.fnc (.fn0 202) (.ptr 0 0 0 0)) :: J4 (.junk :: .c (.int .i64 (l.length : Int)) :: .c (.int .i64 ((i : Nat) : Int)) :: J8 (J2 ([])))) (gJc4 s) :=
 Run.roundA ocKe jAllI_lv 3000 Tryz.func162 mixed (jAllI_l0_R l s i) (by kernel_rfl) (by
  unfold jAllI_l0_R
  repeat' first
  | with_reducible refine g_iteD (fun h => ?_) (fun h => ?_)
  | with_reducible refine g_ite (fun h => ?_) (fun h => ?_)
  | refine g_need (by first | (omega) | exact i64_iff.2 (by omega)) ?_
  | refine g_callH (AFunH.frameB [0, 1] (all1_fun (l.getD i tVal.dflt) s) rfl rfl rfl rfl rfl rfl rfl) ?_
  | (exact g_rh [0, 1] (kk rfl) (by decide) (by simp only [renA, ren1, renC, leAV, leA1, leC]; refine ⟨trivial, ?_⟩; first | (rw [dropCons (α := EVal) (Ty.dflt tVal) (by omega)]; simp only [fstG, *, if_true, decide_true]; done) | (rw [List.drop_eq_nil_of_le (by omega)]; rfl)) rfl)
  | (refine g_stop (RunN.keep [0, 1] (true :: true :: F4 (false :: true :: true :: F8 (F2 ([])))) (kk rfl) (by decide) rfl rfl ?_); have := jAllI_l0 l s (i + 1) hl; rw [dropCons (α := EVal) (Ty.dflt tVal) (by omega)]; simp only [fstG, *, if_false, Bool.false_eq_true, decide_false]; exact this)
  )
 termination_by l.length - i
 decreasing_by all_goals omega
theorem jAllI_fun (l : List EVal) (s : EState) : AFunH Tryz.prog 162 [.c (.ro tVal l), .c (.fnc (.fn0 202) (.ptr 0 0 0 0))] (gJc4 s) (.c (.int .i64 (fstG (fun v => all1F v s) 0 l))) (gJc4 s) (List.range 2) :=
 AFunH.of ocKe jAllI_lv 3000 Tryz.func162 mixed rfl (by decide) (Nat.le_of_ble_eq_true rfl) rfl rfl (Nat.le_refl _) (jAllI_T l s) (by kernel_rfl) fun hF => by
  have hl : l.length ≤ 9223372036854775807 := (hF.ro (i := 0) rfl).1
  unfold jAllI_T
  refine g_stop (RunN.keep [0, 1] (true :: true :: F4 (false :: true :: true :: F8 (F2 ([])))) (kk rfl) (by decide) rfl rfl ?_)
  exact jAllI_l0 l s 0 hl

noncomputable def ocKec : Orc where
 pure := fun f args => match f, args with
  | _, _ => none
 heap := fun f args H => match f, args with
  | 162, [a0, .one (.c (.fnc (.fn0 202) (.ptr b0 0 0 0)))] => (match cellsAs 118 H[b0]? with
   | some [.ptr b1 0 0 0] => (match cellsAs 40 H[b1]? with
   | some c1 => (match dA (.slice tVal) a0, dCs tState c1 with
    | some x0, some y1_0 => hres [b0, b1] H (.c (.int .i64 (fstG (fun v => all1F v y1_0) 0 x0))) [.cells 118 [.ptr 1 0 0 0], .cells 40 (Ty.enc tState y1_0)]
    | _, _ => none)
   | _ => none)
   | _ => none)
  | _, _ => none
def jAllC_lv : LV := ⟨([]), []⟩
noncomputable def jAllC_T (l : List EVal) (s : EState) : Tree :=
 .callH 162 [.c (.ro tVal l), .c (.fnc (.fn0 202) (.ptr 0 0 0 0))] (gJc4 s) (.c (.int .i64 (fstG (fun v => all1F v s) 0 l))) (gJc4 s) [0, 1] <|
 .ret (.c (.bool (decide ((0 : Int) ≤ fstG (fun v => all1F v s) 0 l)))) (gJc4 s)
theorem jAllC_fun (l : List EVal) (s : EState) : AFunH Tryz.prog 108 [.c (.ro tVal l), .c (.fnc (.fn0 202) (.ptr 0 0 0 0))] (gJc4 s) (.c (.bool (List.any l (fun v => all1F v s)))) (gJc4 s) (List.range 2) :=
 AFunH.of ocKec jAllC_lv 3000 Tryz.func108 mixed rfl (by decide) (Nat.le_of_ble_eq_true rfl) rfl rfl (Nat.le_refl _) (jAllC_T l s) (by kernel_rfl) fun hF => by
  unfold jAllC_T
  refine g_callH (AFunH.frameB [0, 1] (jAllI_fun l s) rfl rfl rfl rfl rfl rfl rfl) ?_
  exact g_rh [0, 1] (kk rfl) (by decide) (by simp only [renA, ren1, renC, leAV, leA1, leC]; exact fstG_ge) rfl

def allsF (l : List EVal) (s : EState) : Bool :=
 (!(List.any l (fun v => all1F v s)))
noncomputable def ocKf : Orc where
 pure := fun f args => match f, args with
  | _, _ => none
 heap := fun f args H => match f, args with
  | 108, [a0, .one (.c (.fnc (.fn0 202) (.ptr b0 0 0 0)))] => (match cellsAs 118 H[b0]? with
   | some [.ptr b1 0 0 0] => (match cellsAs 40 H[b1]? with
   | some c1 => (match dA (.slice tVal) a0, dCs tState c1 with
    | some x0, some y1_0 => hres [b0, b1] H (.c (.bool (List.any x0 (fun v => all1F v y1_0)))) [.cells 118 [.ptr 1 0 0 0], .cells 40 (Ty.enc tState y1_0)]
    | _, _ => none)
   | _ => none)
   | _ => none)
  | _, _ => none
def alls_lv : LV := ⟨([]), []⟩
noncomputable def alls_T (l : List EVal) (s : EState) : Tree :=
 .callH 108 [.c (.ro tVal l), .c (.fnc (.fn0 202) (.ptr 1 0 0 0))] [.cells 40 (Ty.enc tState s), .cells 118 [.ptr 0 0 0 0]] (.c (.bool (List.any l (fun v => all1F v s)))) [.cells 40 (Ty.enc tState s), .cells 118 [.ptr 0 0 0 0]] [1, 0] <|
 .ret (.c (.bool (!(List.any l (fun v => all1F v s))))) [.cells 40 (Ty.enc tState s), .cells 118 [.ptr 0 0 0 0]]
theorem alls_fun (l : List EVal) (s : EState) : AFunH Tryz.prog 159 [.c (.ptr 0 0 0 0), .c (.ro tVal l)] [.cells 40 (Ty.enc tState s)] (.c (.bool (allsF l s))) [.cells 40 (Ty.enc tState s)] (List.range 1) :=
 AFunH.of ocKf alls_lv 3000 Tryz.func159 mixed rfl (by decide) (Nat.le_of_ble_eq_true rfl) rfl rfl (Nat.le_refl _) (alls_T l s) (by kernel_rfl) fun hF => by
  unfold alls_T
  refine e_start (allsF.eq_1 l s) ?_
  repeat' first
   | refine e_callH (AFunH.frameB [1, 0] (jAllC_fun l s) rfl rfl rfl rfl rfl rfl rfl) ?_
   | exact fun hE => g_rh [0] (kk rfl) (by decide) (by simp only [renA, ren1, renC, leAV, leA1, leC]; first | exact hE.symm | exact ⟨rfl, hE.symm⟩ | exact ⟨trivial, hE.symm⟩) rfl

def cell1F (v : EVal) (s : EState) : Bool :=
 (!(iscF v 3 s))
noncomputable def ocKg : Orc where
 pure := fun f args => match f, args with
  | _, _ => none
 heap := fun f args H => match f, args with
  | 114, [.one (.c (.ptr b0 0 0 0)), a1, a2] => (match cellsAs 40 H[b0]? with
   | some c0 => (match dA tVal a1, dA tI a2, dCs tState c0 with
    | some x1, some x2, some y0_0 => hres [b0] H (.c (.bool (iscF x1 x2 y0_0))) [.cells 40 (Ty.enc tState y0_0)]
    | _, _, _ => none)
   | _ => none)
  | _, _ => none
def cell1_lv : LV := ⟨([]), []⟩
noncomputable def cell1_T (v : EVal) (s : EState) : Tree :=
 .callH 114 [.c (.ptr 1 0 0 0), .agg (Ty.enc tVal v), .c (.int .i64 3)] (gJc2 s v) (.c (.bool (iscF v 3 s))) (gJc2 s v) [1] <|
 .ret (.c (.bool (!(iscF v 3 s)))) (gJc2 s v)
theorem cell1_fun (v : EVal) (s : EState) : AFunH Tryz.prog 157 [.agg (tVal.enc v), .c (.ptr 0 0 0 0)] (gJc4 s) (.c (.bool (cell1F v s))) (gJc4 s) (List.range 2) :=
 AFunH.of ocKg cell1_lv 3000 Tryz.func157 mixed rfl (by decide) (Nat.le_of_ble_eq_true rfl) rfl rfl (Nat.le_refl _) (cell1_T v s) (by kernel_rfl) fun hF => by
  unfold cell1_T
  refine e_start (cell1F.eq_1 v s) ?_
  repeat' first
   | refine e_callH (AFunH.frameB [1] (isc_fun v 3 s) rfl rfl rfl rfl rfl rfl rfl) ?_
   | exact fun hE => g_rh [0, 1] (kk rfl) (by decide) (by simp only [renA, ren1, renC, leAV, leA1, leC]; first | exact hE.symm | exact ⟨rfl, hE.symm⟩ | exact ⟨trivial, hE.symm⟩) rfl

def cell2F (f : EFrame) (s : EState) : Bool :=
 if (allsF f.2.2.2.2.2.1 s) = true then
  (!(fitsF f.2.2.2.2.1 s))
 else
  true
noncomputable def ocKh : Orc where
 pure := fun f args => match f, args with
  | _, _ => none
 heap := fun f args H => match f, args with
  | 110, [.one (.c (.ptr b0 0 0 0)), a1] => (match cellsAs 40 H[b0]? with
   | some c0 => (match dA tVal a1, dCs tState c0 with
    | some x1, some y0_0 => hres [b0] H (.c (.bool (fitsF x1 y0_0))) [.cells 40 (Ty.enc tState y0_0)]
    | _, _ => none)
   | _ => none)
  | 159, [.one (.c (.ptr b0 0 0 0)), a1] => (match cellsAs 40 H[b0]? with
   | some c0 => (match dA (.slice tVal) a1, dCs tState c0 with
    | some x1, some y0_0 => hres [b0] H (.c (.bool (allsF x1 y0_0))) [.cells 40 (Ty.enc tState y0_0)]
    | _, _ => none)
   | _ => none)
  | _, _ => none
def cell2_lv : LV := ⟨([]), []⟩
abbrev gJc0 (s : EState) (f : EFrame) : List AB := [.cells 118 [.ptr 1 0 0 0], .cells 40 (Ty.enc tState s), .cells 61 (Ty.enc tFrame f)]
noncomputable def cell2_T (f : EFrame) (s : EState) : Tree :=
 .callH 159 [.c (.ptr 1 0 0 0), .c (.ro tVal f.2.2.2.2.2.1)] (gJc0 s f) (.c (.bool (allsF f.2.2.2.2.2.1 s))) (gJc0 s f) [1] <|
 .ite ((!(allsF f.2.2.2.2.2.1 s)))
 (.ret (.c (.lit true)) (gJc0 s f))
 (.callH 110 [.c (.ptr 1 0 0 0), .agg (Ty.enc tVal f.2.2.2.2.1)] (gJc0 s f) (.c (.bool (fitsF f.2.2.2.2.1 s))) (gJc0 s f) [1] <|
  .ret (.c (.bool (!(fitsF f.2.2.2.2.1 s)))) (gJc0 s f))
theorem cell2_fun (f : EFrame) (s : EState) : AFunH Tryz.prog 161 [.agg (tFrame.enc f), .c (.ptr 0 0 0 0)] (gJc4 s) (.c (.bool (cell2F f s))) (gJc4 s) (List.range 2) :=
 AFunH.of ocKh cell2_lv 3000 Tryz.func161 mixed rfl (by decide) (Nat.le_of_ble_eq_true rfl) rfl rfl (Nat.le_refl _) (cell2_T f s) (by kernel_rfl) fun hF => by
  unfold cell2_T
  refine e_start (cell2F.eq_1 f s) ?_
  repeat' first
   | with_reducible refine e_NB (fun _ => ?_) (fun _ => ?_)
   | refine e_callH (AFunH.frameB [1] (alls_fun f.2.2.2.2.2.1 s) rfl rfl rfl rfl rfl rfl rfl) ?_
   | refine e_callH (AFunH.frameB [1] (fits_fun f.2.2.2.2.1 s) rfl rfl rfl rfl rfl rfl rfl) ?_
   | exact fun hE => g_rh [0, 1] (kk rfl) (by decide) (by simp only [renA, ren1, renC, leAV, leA1, leC]; first | exact hE.symm | exact ⟨rfl, hE.symm⟩ | exact ⟨trivial, hE.symm⟩) rfl

noncomputable def ocKi : Orc where
 pure := fun f args => match f, args with
  | _, _ => none
 heap := fun f args H => match f, args with
  | 161, [a0, .one (.c (.ptr b0 0 0 0))] => (match cellsAs 118 H[b0]? with
   | some [.ptr b1 0 0 0] => (match cellsAs 40 H[b1]? with
   | some c1 => (match dA tFrame a0, dCs tState c1 with
    | some x0, some y1_0 => hres [b0, b1] H (.c (.bool (cell2F x0 y1_0))) [.cells 118 [.ptr 1 0 0 0], .cells 40 (Ty.enc tState y1_0)]
    | _, _ => none)
   | _ => none)
   | _ => none)
  | _, _ => none
def jCell2I_lv : LV := ⟨(true :: true :: F4 (false :: true :: true :: F8 (F2 ([])))), []⟩
noncomputable def jCell2I_T (l : List EFrame) (s : EState) : Tree :=
 .stop (lp (bodyOf Tryz.f203) 0) (.c (.ro tFrame l) :: .c (.fnc (.fn0 161) (.ptr 0 0 0 0)) :: J4 (.junk :: .c (.int .i64 (l.length : Int)) :: .c (.int .i64 0) :: J8 (J2 ([])))) (gJc4 s)
noncomputable def jCell2I_l0_R (l : List EFrame) (s : EState) (i : Nat) : Tree :=
 .ite (decide (((i : Nat) : Int) < (l.length : Int)))
 (.need ((0 : Int) ≤ ((i : Nat) : Int) ∧ (((i : Nat) : Int) : Int) < (l.length : Int)) <|
  .need (i < l.length) <|
  .callH 161 [.agg (Ty.enc tFrame (l.getD i tFrame.dflt)), .c (.ptr 0 0 0 0)] (gJc4 s) (.c (.bool (cell2F (l.getD i tFrame.dflt) s))) (gJc4 s) [0, 1] <|
  .ite (cell2F (l.getD i tFrame.dflt) s)
  (.ret (.c (.int .i64 ((i : Nat) : Int))) (gJc4 s))
  (.need (inR .i64 (((i : Nat) : Int) + 1)) <|
  .stop (lp (bodyOf Tryz.f203) 0) (.c (.ro tFrame l) :: .c (.fnc (.fn0 161) (.ptr 0 0 0 0)) :: J4 (.junk :: .c (.int .i64 (l.length : Int)) :: .c (.int .i64 (((i : Nat) : Int) + 1)) :: J8 (J2 ([])))) (gJc4 s)))
 (.ret (.c (.int .i64 (-1))) (gJc4 s))
theorem jCell2I_l0 (l : List EFrame) (s : EState) (i : Nat) (hl : l.length ≤ 9223372036854775807) : RunN 2 Tryz.prog 203 (retH 2 (.c (.int .i64 (fstG (fun f => cell2F f s) i (l.drop i)))) (gJc4 s)) (lp (bodyOf Tryz.f203) 0) (.c (.ro tFrame l) :: .c (.fnc (.fn0 161) (.ptr 0 0 0 0)) :: J4 (.junk :: .c (.int .i64 (l.length : Int)) :: .c (.int .i64 ((i : Nat) : Int)) :: J8 (J2 ([])))) (gJc4 s) :=
 Run.roundA ocKi jCell2I_lv 3000 Tryz.func203 mixed (jCell2I_l0_R l s i) (by kernel_rfl) (by
  unfold jCell2I_l0_R
  repeat' first
  | with_reducible refine g_iteD (fun h => ?_) (fun h => ?_)
  | with_reducible refine g_ite (fun h => ?_) (fun h => ?_)
  | refine g_need (by first | (omega) | exact i64_iff.2 (by omega)) ?_
  | refine g_callH (AFunH.frameB [0, 1] (cell2_fun (l.getD i tFrame.dflt) s) rfl rfl rfl rfl rfl rfl rfl) ?_
  | (exact g_rh [0, 1] (kk rfl) (by decide) (by simp only [renA, ren1, renC, leAV, leA1, leC]; refine ⟨trivial, ?_⟩; first | (rw [dropCons (α := EFrame) (Ty.dflt tFrame) (by omega)]; simp only [fstG, *, if_true, decide_true]; done) | (rw [List.drop_eq_nil_of_le (by omega)]; rfl)) rfl)
  | (refine g_stop (RunN.keep [0, 1] (true :: true :: F4 (false :: true :: true :: F8 (F2 ([])))) (kk rfl) (by decide) rfl rfl ?_); have := jCell2I_l0 l s (i + 1) hl; rw [dropCons (α := EFrame) (Ty.dflt tFrame) (by omega)]; simp only [fstG, *, if_false, Bool.false_eq_true, decide_false]; exact this)
  )
 termination_by l.length - i
 decreasing_by all_goals omega
theorem jCell2I_fun (l : List EFrame) (s : EState) : AFunH Tryz.prog 203 [.c (.ro tFrame l), .c (.fnc (.fn0 161) (.ptr 0 0 0 0))] (gJc4 s) (.c (.int .i64 (fstG (fun f => cell2F f s) 0 l))) (gJc4 s) (List.range 2) :=
 AFunH.of ocKi jCell2I_lv 3000 Tryz.func203 mixed rfl (by decide) (Nat.le_of_ble_eq_true rfl) rfl rfl (Nat.le_refl _) (jCell2I_T l s) (by kernel_rfl) fun hF => by
  have hl : l.length ≤ 9223372036854775807 := (hF.ro (i := 0) rfl).1
  unfold jCell2I_T
  refine g_stop (RunN.keep [0, 1] (true :: true :: F4 (false :: true :: true :: F8 (F2 ([])))) (kk rfl) (by decide) rfl rfl ?_)
  exact jCell2I_l0 l s 0 hl

noncomputable def ocKic : Orc where
 pure := fun f args => match f, args with
  | _, _ => none
 heap := fun f args H => match f, args with
  | 203, [a0, .one (.c (.fnc (.fn0 161) (.ptr b0 0 0 0)))] => (match cellsAs 118 H[b0]? with
   | some [.ptr b1 0 0 0] => (match cellsAs 40 H[b1]? with
   | some c1 => (match dA (.slice tFrame) a0, dCs tState c1 with
    | some x0, some y1_0 => hres [b0, b1] H (.c (.int .i64 (fstG (fun f => cell2F f y1_0) 0 x0))) [.cells 118 [.ptr 1 0 0 0], .cells 40 (Ty.enc tState y1_0)]
    | _, _ => none)
   | _ => none)
   | _ => none)
  | _, _ => none
def jCell2C_lv : LV := ⟨([]), []⟩
noncomputable def jCell2C_T (l : List EFrame) (s : EState) : Tree :=
 .callH 203 [.c (.ro tFrame l), .c (.fnc (.fn0 161) (.ptr 0 0 0 0))] (gJc4 s) (.c (.int .i64 (fstG (fun f => cell2F f s) 0 l))) (gJc4 s) [0, 1] <|
 .ret (.c (.bool (decide ((0 : Int) ≤ fstG (fun f => cell2F f s) 0 l)))) (gJc4 s)
theorem jCell2C_fun (l : List EFrame) (s : EState) : AFunH Tryz.prog 160 [.c (.ro tFrame l), .c (.fnc (.fn0 161) (.ptr 0 0 0 0))] (gJc4 s) (.c (.bool (List.any l (fun f => cell2F f s)))) (gJc4 s) (List.range 2) :=
 AFunH.of ocKic jCell2C_lv 3000 Tryz.func160 mixed rfl (by decide) (Nat.le_of_ble_eq_true rfl) rfl rfl (Nat.le_refl _) (jCell2C_T l s) (by kernel_rfl) fun hF => by
  unfold jCell2C_T
  refine g_callH (AFunH.frameB [0, 1] (jCell2I_fun l s) rfl rfl rfl rfl rfl rfl rfl) ?_
  exact g_rh [0, 1] (kk rfl) (by decide) (by simp only [renA, ren1, renC, leAV, leA1, leC]; exact fstG_ge) rfl

noncomputable def ocKj : Orc where
 pure := fun f args => match f, args with
  | _, _ => none
 heap := fun f args H => match f, args with
  | 157, [a0, .one (.c (.ptr b0 0 0 0))] => (match cellsAs 118 H[b0]? with
   | some [.ptr b1 0 0 0] => (match cellsAs 40 H[b1]? with
   | some c1 => (match dA tVal a0, dCs tState c1 with
    | some x0, some y1_0 => hres [b0, b1] H (.c (.bool (cell1F x0 y1_0))) [.cells 118 [.ptr 1 0 0 0], .cells 40 (Ty.enc tState y1_0)]
    | _, _ => none)
   | _ => none)
   | _ => none)
  | _, _ => none
def jCell1I_lv : LV := ⟨(true :: true :: F4 (false :: true :: true :: F8 (F2 ([])))), []⟩
noncomputable def jCell1I_T (l : List EVal) (s : EState) : Tree :=
 .stop (lp (bodyOf Tryz.f162) 0) (.c (.ro tVal l) :: .c (.fnc (.fn0 157) (.ptr 0 0 0 0)) :: J4 (.junk :: .c (.int .i64 (l.length : Int)) :: .c (.int .i64 0) :: J8 (J2 ([])))) (gJc4 s)
noncomputable def jCell1I_l0_R (l : List EVal) (s : EState) (i : Nat) : Tree :=
 .ite (decide (((i : Nat) : Int) < (l.length : Int)))
 (.need ((0 : Int) ≤ ((i : Nat) : Int) ∧ (((i : Nat) : Int) : Int) < (l.length : Int)) <|
  .need (i < l.length) <|
  .callH 157 [.agg (Ty.enc tVal (l.getD i tVal.dflt)), .c (.ptr 0 0 0 0)] (gJc4 s) (.c (.bool (cell1F (l.getD i tVal.dflt) s))) (gJc4 s) [0, 1] <|
  .ite (cell1F (l.getD i tVal.dflt) s)
  (.ret (.c (.int .i64 ((i : Nat) : Int))) (gJc4 s))
  (.need (inR .i64 (((i : Nat) : Int) + 1)) <|
  .stop (lp (bodyOf Tryz.f162) 0) (.c (.ro tVal l) :: .c (.fnc (.fn0 157) (.ptr 0 0 0 0)) :: J4 (gJc3 l i)) (gJc4 s)))
 (.ret (.c (.int .i64 (-1))) (gJc4 s))
theorem jCell1I_l0 (l : List EVal) (s : EState) (i : Nat) (hl : l.length ≤ 9223372036854775807) : RunN 2 Tryz.prog 162 (retH 2 (.c (.int .i64 (fstG (fun v => cell1F v s) i (l.drop i)))) (gJc4 s)) (lp (bodyOf Tryz.f162) 0) (.c (.ro tVal l) :: .c (.fnc (.fn0 157) (.ptr 0 0 0 0)) :: J4 (.junk :: .c (.int .i64 (l.length : Int)) :: .c (.int .i64 ((i : Nat) : Int)) :: J8 (J2 ([])))) (gJc4 s) :=
 Run.roundA ocKj jCell1I_lv 3000 Tryz.func162 mixed (jCell1I_l0_R l s i) (by kernel_rfl) (by
  unfold jCell1I_l0_R
  repeat' first
  | with_reducible refine g_iteD (fun h => ?_) (fun h => ?_)
  | with_reducible refine g_ite (fun h => ?_) (fun h => ?_)
  | refine g_need (by first | (omega) | exact i64_iff.2 (by omega)) ?_
  | refine g_callH (AFunH.frameB [0, 1] (cell1_fun (l.getD i tVal.dflt) s) rfl rfl rfl rfl rfl rfl rfl) ?_
  | (exact g_rh [0, 1] (kk rfl) (by decide) (by simp only [renA, ren1, renC, leAV, leA1, leC]; refine ⟨trivial, ?_⟩; first | (rw [dropCons (α := EVal) (Ty.dflt tVal) (by omega)]; simp only [fstG, *, if_true, decide_true]; done) | (rw [List.drop_eq_nil_of_le (by omega)]; rfl)) rfl)
  | (refine g_stop (RunN.keep [0, 1] (true :: true :: F4 (false :: true :: true :: F8 (F2 ([])))) (kk rfl) (by decide) rfl rfl ?_); have := jCell1I_l0 l s (i + 1) hl; rw [dropCons (α := EVal) (Ty.dflt tVal) (by omega)]; simp only [fstG, *, if_false, Bool.false_eq_true, decide_false]; exact this)
  )
 termination_by l.length - i
 decreasing_by all_goals omega
theorem jCell1I_fun (l : List EVal) (s : EState) : AFunH Tryz.prog 162 [.c (.ro tVal l), .c (.fnc (.fn0 157) (.ptr 0 0 0 0))] (gJc4 s) (.c (.int .i64 (fstG (fun v => cell1F v s) 0 l))) (gJc4 s) (List.range 2) :=
 AFunH.of ocKj jCell1I_lv 3000 Tryz.func162 mixed rfl (by decide) (Nat.le_of_ble_eq_true rfl) rfl rfl (Nat.le_refl _) (jCell1I_T l s) (by kernel_rfl) fun hF => by
  have hl : l.length ≤ 9223372036854775807 := (hF.ro (i := 0) rfl).1
  unfold jCell1I_T
  refine g_stop (RunN.keep [0, 1] (true :: true :: F4 (false :: true :: true :: F8 (F2 ([])))) (kk rfl) (by decide) rfl rfl ?_)
  exact jCell1I_l0 l s 0 hl

noncomputable def ocKjc : Orc where
 pure := fun f args => match f, args with
  | _, _ => none
 heap := fun f args H => match f, args with
  | 162, [a0, .one (.c (.fnc (.fn0 157) (.ptr b0 0 0 0)))] => (match cellsAs 118 H[b0]? with
   | some [.ptr b1 0 0 0] => (match cellsAs 40 H[b1]? with
   | some c1 => (match dA (.slice tVal) a0, dCs tState c1 with
    | some x0, some y1_0 => hres [b0, b1] H (.c (.int .i64 (fstG (fun v => cell1F v y1_0) 0 x0))) [.cells 118 [.ptr 1 0 0 0], .cells 40 (Ty.enc tState y1_0)]
    | _, _ => none)
   | _ => none)
   | _ => none)
  | _, _ => none
def jCell1C_lv : LV := ⟨([]), []⟩
noncomputable def jCell1C_T (l : List EVal) (s : EState) : Tree :=
 .callH 162 [.c (.ro tVal l), .c (.fnc (.fn0 157) (.ptr 0 0 0 0))] (gJc4 s) (.c (.int .i64 (fstG (fun v => cell1F v s) 0 l))) (gJc4 s) [0, 1] <|
 .ret (.c (.bool (decide ((0 : Int) ≤ fstG (fun v => cell1F v s) 0 l)))) (gJc4 s)
theorem jCell1C_fun (l : List EVal) (s : EState) : AFunH Tryz.prog 108 [.c (.ro tVal l), .c (.fnc (.fn0 157) (.ptr 0 0 0 0))] (gJc4 s) (.c (.bool (List.any l (fun v => cell1F v s)))) (gJc4 s) (List.range 2) :=
 AFunH.of ocKjc jCell1C_lv 3000 Tryz.func108 mixed rfl (by decide) (Nat.le_of_ble_eq_true rfl) rfl rfl (Nat.le_refl _) (jCell1C_T l s) (by kernel_rfl) fun hF => by
  unfold jCell1C_T
  refine g_callH (AFunH.frameB [0, 1] (jCell1I_fun l s) rfl rfl rfl rfl rfl rfl rfl) ?_
  exact g_rh [0, 1] (kk rfl) (by decide) (by simp only [renA, ren1, renC, leAV, leA1, leC]; exact fstG_ge) rfl

theorem intKey : MapLaw Tryz.prog 3 tI := ⟨Maps.int_keyed Tryz.underlying3, fun x hx => by
 have hx : inR .i64 x := hx
 have := i64_iff.1 hx
 refine ⟨.int .i64 x, ?_⟩
 simp [keyOf, mapKey, plainV, plainCs, Ty.isPair, Tryz.underlying3, Lit.wf, IntKind.min, IntKind.max, IntKind.bits, IntKind.signed]
 try omega⟩
def weakGo (l : List EVal) (k : Nat) (m : Int → Option Int) : Bool :=
 if k < l.length then (if (l.getD k tVal.dflt).1 = 5 then (if (m (l.getD k tVal.dflt).2).getD 0 = 1 then false else weakGo l (k + 2) (updM (kt := tI) m (l.getD k tVal.dflt).2 (1 : Int))) else false) else decide ((l.length : Int).tmod 2 = 0)
termination_by l.length - k
def weak_lv : LV := ⟨(false :: true :: F2 (false :: true :: true :: F32 (false :: []))), []⟩
noncomputable def weak_T (l : List EVal) (s : EState) : Tree :=
 .need (Tryz.prog = Tryz.prog) <|
 .stop (lp (bodyOf Tryz.f158) 0) (.junk :: .c (.ro tVal l) :: J2 (.junk :: .c (.map 1) :: .c (.int .i64 0) :: J32 (.junk :: []))) [.cells 40 (Ty.enc tState s), .map 3 tI tI 0 (fun _ => none)]
noncomputable def weak_l0_R (l : List EVal) (s : EState) (k : Nat) (n : Nat) (m : Int → Option Int) : Tree :=
 .ite (decide (((k : Nat) : Int) < (l.length : Int)))
 (.need ((0 : Int) ≤ ((k : Nat) : Int) ∧ (((k : Nat) : Int) : Int) < (l.length : Int)) <|
  .need (k < l.length) <|
  .ite ((!(decide ((l.getD k tVal.dflt).1 = 5))))
  (.ret (.c (.lit false)) [.cells 40 (Ty.enc tState s), .map 3 tI tI n m])
  (.need ((0 : Int) ≤ ((k : Nat) : Int) ∧ (((k : Nat) : Int) : Int) < (l.length : Int)) <|
  .need (k < l.length) <|
  .need (Tryz.prog = Tryz.prog ∧ MapLaw Tryz.prog 3 tI) <|
  .ite (decide (((m (l.getD k tVal.dflt).2).getD 0) = 1))
  (.ret (.c (.lit false)) [.cells 40 (Ty.enc tState s), .map 3 tI tI n m])
  (.need ((0 : Int) ≤ ((k : Nat) : Int) ∧ (((k : Nat) : Int) : Int) < (l.length : Int)) <|
   .need (k < l.length) <|
   .need (Tryz.prog = Tryz.prog ∧ MapLaw Tryz.prog 3 tI ∧ n < 140737488355328) <|
   .need (inR .i64 (((k : Nat) : Int) + 2)) <|
   .stop (lp (bodyOf Tryz.f158) 0) (.junk :: .c (.ro tVal l) :: J2 (.junk :: .c (.map 1) :: .c (.int .i64 (((k : Nat) : Int) + 2)) :: J32 (.junk :: []))) [.cells 40 (Ty.enc tState s), .map 3 tI tI (n + 1) (updM (kt := tI) m (l.getD k tVal.dflt).2 (1 : Int))])))
 (.need ((2 : Int) ≠ 0) <|
  .need (inR .i64 (Int.tmod (l.length : Int) 2)) <|
  .ret (.c (.bool (decide ((Int.tmod (l.length : Int) 2) = 0)))) [.cells 40 (Ty.enc tState s), .map 3 tI tI n m])
theorem weak_l0 (l : List EVal) (s : EState) (k : Nat) (n : Nat) (m : Int → Option Int) (hb : l.length ≤ 1000000) (hn : n ≤ k) : RunN 1 Tryz.prog 158 (finQ Tryz.prog 1 (.c (.bool (weakGo l k m))) [.cells 40 (Ty.enc tState s)]) (lp (bodyOf Tryz.f158) 0) (.junk :: .c (.ro tVal l) :: J2 (.junk :: .c (.map 1) :: .c (.int .i64 ((k : Nat) : Int)) :: J32 (.junk :: []))) [.cells 40 (Ty.enc tState s), .map 3 tI tI n m] :=
 Run.roundA oc0 weak_lv 3000 Tryz.func158 mixed (weak_l0_R l s k n m) (by kernel_rfl) (by
  unfold weak_l0_R
  repeat' first
  | with_reducible refine g_iteND (fun h => ?_) (fun h => ?_)
  | with_reducible refine g_iteD (fun h => ?_) (fun h => ?_)
  | refine g_need (by first | (omega) | (first | omega | exact ⟨rfl, intKey⟩ | exact ⟨rfl, intKey, by omega⟩ | (rw [i64_iff]; omega) | (constructor <;> omega) | (rw [i64_iff]; have := Int.tmod_lt_of_pos (l.length : Int) (by decide : (0:Int) < 2); have := Int.tmod_nonneg 2 (by omega : (0:Int) ≤ (l.length : Int)); omega) | rfl)) ?_
  | (refine g_fin ?_; exact g_end [0] (kk rfl) (by decide) ((show (false : Bool) = weakGo l k m from by first | (rw [weakGo, if_pos (by omega), if_neg (by assumption)]; done) | (rw [weakGo, if_pos (by omega), if_pos (by assumption), if_pos (by assumption)]; done) | (rw [weakGo, if_neg (by omega)]))) ⟨leB.refl _, trivial⟩)
  | (refine g_stop (RunN.keep [0, 1] (false :: true :: F2 (false :: true :: true :: F32 (false :: []))) (kk rfl) (by decide) rfl rfl ?_); have ht := weak_l0 l s (k + 2) (n + 1) (updM (kt := tI) m (l.getD k tVal.dflt).2 (1 : Int)) hb (by omega); rw [weakGo, if_pos (by omega), if_pos (by assumption), if_neg (by assumption)]; exact ht)
  | (refine g_fin ?_; exact g_end [0] (kk rfl) (by decide) ((show (decide ((Int.tmod (l.length : Int) 2) = 0) : Bool) = weakGo l k m from by first | (rw [weakGo, if_pos (by omega), if_neg (by assumption)]; done) | (rw [weakGo, if_pos (by omega), if_pos (by assumption), if_pos (by assumption)]; done) | (rw [weakGo, if_neg (by omega)]))) ⟨leB.refl _, trivial⟩)
  )
 termination_by l.length - k
 decreasing_by all_goals omega
theorem weak_fun (l : List EVal) (s : EState) (hb : l.length ≤ 1000000) : AFunH Tryz.prog 158 [.c (.ptr 0 0 0 0), .c (.ro tVal l)] [.cells 40 (Ty.enc tState s)] (.c (.bool (weakGo l 0 (fun _ => none)))) [.cells 40 (Ty.enc tState s)] (List.range 1) :=
 AFunH.ofL oc0 weak_lv 3000 Tryz.func158 mixed rfl (by decide) (Nat.le_of_ble_eq_true rfl) rfl rfl (Nat.le_of_ble_eq_true rfl) (weak_T l s) (by kernel_rfl) fun hF => by
  unfold weak_T
  refine g_need (rfl) ?_
  refine g_stop (RunN.keep [0, 1] (false :: true :: F2 (false :: true :: true :: F32 (false :: []))) (kk rfl) (by decide) rfl rfl ?_)
  exact weak_l0 l s 0 0 (fun _ => none) hb (Nat.le_refl _)

def ccellF (c : ECell) (s : EState) : Bool :=
 if c.1 = 0 then
  if c.2.1 = 0 then
   if (c.2.2.1.length : Int) = 0 then
    if (c.2.2.2.length : Int) = 0 then
     if (allsF c.2.2.1 s) = true then
      (!(List.any c.2.2.2 (fun f => cell2F f s)))
     else
      false
    else
     false
   else
    false
  else
   false
 else
  if c.1 = 1 then
   if cwithinF c.2.1 0 ((s.2.1.length : Int) - 1) = true then
    if (cwithinF c.2.1 0 ((s.2.1.length : Int) - 1)) = true then
     if (c.2.2.1.length : Int) = ((shNamesOf s.2.1 c.2.1).length : Int) then
      if (c.2.2.2.length : Int) = 0 then
       if (allsF c.2.2.1 s) = true then
        (!(List.any c.2.2.2 (fun f => cell2F f s)))
       else
        false
      else
       false
     else
      false
    else
     false
   else
    if (cwithinF c.2.1 0 ((s.2.1.length : Int) - 1)) = true then
     false
    else
     false
  else
   if c.1 = 2 then
    if c.2.1 = 0 then
     if (c.2.2.2.length : Int) = 0 then
      if (allsF c.2.2.1 s) = true then
       (!(List.any c.2.2.2 (fun f => cell2F f s)))
      else
       false
     else
      false
    else
     false
   else
    if c.1 = 3 then
     if c.2.1 = 0 then
      if (c.2.2.1.length : Int) = 1 then
       if (c.2.2.2.length : Int) = 0 then
        if (allsF c.2.2.1 s) = true then
         (!(List.any c.2.2.2 (fun f => cell2F f s)))
        else
         false
       else
        false
      else
       false
     else
      false
    else
     if c.1 = 4 then
      if (0 : Int) ≤ c.2.1 then
       if (!(List.any c.2.2.1 (fun v => cell1F v s))) = true then
        if (c.2.2.2.length : Int) = 0 then
         if (allsF c.2.2.1 s) = true then
          (!(List.any c.2.2.2 (fun f => cell2F f s)))
         else
          false
        else
         false
       else
        false
      else
       false
     else
      if c.1 = 5 then
       if c.2.1 = 0 then
        if (cwithinF c.2.1 0 2) = true then
         if (c.2.2.1.length : Int) = 0 then
          if (c.2.2.2.length : Int) = 1 then
           if (allsF c.2.2.1 s) = true then
            (!(List.any c.2.2.2 (fun f => cell2F f s)))
           else
            false
          else
           false
         else
          false
        else
         false
       else
        if (cwithinF c.2.1 0 2) = true then
         if (c.2.2.1.length : Int) = 0 then
          if (c.2.2.2.length : Int) = 0 then
           if (allsF c.2.2.1 s) = true then
            (!(List.any c.2.2.2 (fun f => cell2F f s)))
           else
            false
          else
           false
         else
          false
        else
         false
      else
       if c.1 = 6 then
        if (cwithinF c.2.1 (-1) 4) = true then
         if (c.2.2.1.length : Int) = 0 then
          if (c.2.2.2.length : Int) = 0 then
           if (allsF c.2.2.1 s) = true then
            (!(List.any c.2.2.2 (fun f => cell2F f s)))
           else
            false
          else
           false
         else
          false
        else
         false
       else
        if c.1 = 7 then
         if c.2.1 = 0 then
          if (weakGo c.2.2.1 0 (fun _ => none)) = true then
           if (c.2.2.2.length : Int) = 0 then
            if (allsF c.2.2.1 s) = true then
             (!(List.any c.2.2.2 (fun f => cell2F f s)))
            else
             false
           else
            false
          else
           false
         else
          false
        else
         false
noncomputable def ocKk : Orc where
 pure := fun f args => match f, args with
  | 113, [a0, a1, a2] => match dA tI a0, dA tI a1, dA tI a2 with
   | some x0, some x1, some x2 => some (.c (.bool (cwithinF x0 x1 x2)))
   | _, _, _ => none
  | 156, [a0, a1] => match dA (.slice tVal) a0, dA tI a1 with
   | some x0, some x1 => some (.c (.ro tI (shNamesOf x0 x1)))
   | _, _ => none
  | _, _ => none
 heap := fun f args H => match f, args with
  | 108, [a0, .one (.c (.fnc (.fn0 157) (.ptr b0 0 0 0)))] => (match cellsAs 118 H[b0]? with
   | some [.ptr b1 0 0 0] => (match cellsAs 40 H[b1]? with
   | some c1 => (match dA (.slice tVal) a0, dCs tState c1 with
    | some x0, some y1_0 => hres [b0, b1] H (.c (.bool (List.any x0 (fun v => cell1F v y1_0)))) [.cells 118 [.ptr 1 0 0 0], .cells 40 (Ty.enc tState y1_0)]
    | _, _ => none)
   | _ => none)
   | _ => none)
  | 158, [.one (.c (.ptr b0 0 0 0)), a1] => (match cellsAs 40 H[b0]? with
   | some c0 => (match dA (.slice tVal) a1, dCs tState c0 with
    | some x1, some y0_0 => hres [b0] H (.c (.bool (weakGo x1 0 (fun _ => none)))) [.cells 40 (Ty.enc tState y0_0)]
    | _, _ => none)
   | _ => none)
  | 159, [.one (.c (.ptr b0 0 0 0)), a1] => (match cellsAs 40 H[b0]? with
   | some c0 => (match dA (.slice tVal) a1, dCs tState c0 with
    | some x1, some y0_0 => hres [b0] H (.c (.bool (allsF x1 y0_0))) [.cells 40 (Ty.enc tState y0_0)]
    | _, _ => none)
   | _ => none)
  | 160, [a0, .one (.c (.fnc (.fn0 161) (.ptr b0 0 0 0)))] => (match cellsAs 118 H[b0]? with
   | some [.ptr b1 0 0 0] => (match cellsAs 40 H[b1]? with
   | some c1 => (match dA (.slice tFrame) a0, dCs tState c1 with
    | some x0, some y1_0 => hres [b0, b1] H (.c (.bool (List.any x0 (fun f => cell2F f y1_0)))) [.cells 118 [.ptr 1 0 0 0], .cells 40 (Ty.enc tState y1_0)]
    | _, _ => none)
   | _ => none)
   | _ => none)
  | _, _ => none
def ccell_lv : LV := ⟨([]), []⟩
abbrev gJc1 (s : EState) (c : ECell) : List AB := [.cells 40 (Ty.enc tState s), .cells 118 [.ptr 0 0 0 0], .cells 55 (Ty.enc tCell c)]
noncomputable def ccell_T (c : ECell) (s : EState) : Tree :=
 .ite (decide (c.1 = 0))
 (.ite ((!(decide (c.2.1 = 0))))
  (.ret (.c (.lit false)) (gJc1 s c))
  (.ite ((!(decide ((c.2.2.1.length : Int) = 0))))
  (.ret (.c (.lit false)) (gJc1 s c))
  (.ite ((!(decide ((c.2.2.2.length : Int) = 0))))
   (.ret (.c (.lit false)) (gJc1 s c))
   (.callH 159 [.c (.ptr 0 0 0 0), .c (.ro tVal c.2.2.1)] (gJc1 s c) (.c (.bool (allsF c.2.2.1 s))) (gJc1 s c) [0] <|
   .ite ((!(allsF c.2.2.1 s)))
   (.ret (.c (.lit false)) (gJc1 s c))
   (.callH 160 [.c (.ro tFrame c.2.2.2), .c (.fnc (.fn0 161) (.ptr 1 0 0 0))] (gJc1 s c) (.c (.bool (List.any c.2.2.2 (fun f => cell2F f s)))) (gJc1 s c) [1, 0] <|
    .ret (.c (.bool (!(List.any c.2.2.2 (fun f => cell2F f s))))) (gJc1 s c))))))
 (.ite (decide (c.1 = 1))
  (.need (inR .i64 ((s.2.1.length : Int) - 1)) <|
  .call 113 [.c (.int .i64 c.2.1), .c (.int .i64 0), .c (.int .i64 ((s.2.1.length : Int) - 1))] false (.c (.bool (cwithinF c.2.1 0 ((s.2.1.length : Int) - 1)))) <|
  .ite (cwithinF c.2.1 0 ((s.2.1.length : Int) - 1))
  (.call 156 [.c (.ro tVal s.2.1), .c (.int .i64 c.2.1)] false (.c (.ro tI (shNamesOf s.2.1 c.2.1))) <|
   .ite ((!(cwithinF c.2.1 0 ((s.2.1.length : Int) - 1))))
   (.ret (.c (.lit false)) (gJc1 s c))
   (.ite ((!(decide ((c.2.2.1.length : Int) = ((shNamesOf s.2.1 c.2.1).length : Int)))))
   (.ret (.c (.lit false)) (gJc1 s c))
   (.ite ((!(decide ((c.2.2.2.length : Int) = 0))))
    (.ret (.c (.lit false)) (gJc1 s c))
    (.callH 159 [.c (.ptr 0 0 0 0), .c (.ro tVal c.2.2.1)] (gJc1 s c) (.c (.bool (allsF c.2.2.1 s))) (gJc1 s c) [0] <|
    .ite ((!(allsF c.2.2.1 s)))
    (.ret (.c (.lit false)) (gJc1 s c))
    (.callH 160 [.c (.ro tFrame c.2.2.2), .c (.fnc (.fn0 161) (.ptr 1 0 0 0))] (gJc1 s c) (.c (.bool (List.any c.2.2.2 (fun f => cell2F f s)))) (gJc1 s c) [1, 0] <|
     .ret (.c (.bool (!(List.any c.2.2.2 (fun f => cell2F f s))))) (gJc1 s c))))))
  (.ite ((!(cwithinF c.2.1 0 ((s.2.1.length : Int) - 1))))
   (.ret (.c (.lit false)) (gJc1 s c))
   (.ret (.c (.lit false)) (gJc1 s c))))
  (.ite (decide (c.1 = 2))
  (.ite ((!(decide (c.2.1 = 0))))
   (.ret (.c (.lit false)) (gJc1 s c))
   (.ite ((!(decide ((c.2.2.2.length : Int) = 0))))
   (.ret (.c (.lit false)) (gJc1 s c))
   (.callH 159 [.c (.ptr 0 0 0 0), .c (.ro tVal c.2.2.1)] (gJc1 s c) (.c (.bool (allsF c.2.2.1 s))) (gJc1 s c) [0] <|
    .ite ((!(allsF c.2.2.1 s)))
    (.ret (.c (.lit false)) (gJc1 s c))
    (.callH 160 [.c (.ro tFrame c.2.2.2), .c (.fnc (.fn0 161) (.ptr 1 0 0 0))] (gJc1 s c) (.c (.bool (List.any c.2.2.2 (fun f => cell2F f s)))) (gJc1 s c) [1, 0] <|
    .ret (.c (.bool (!(List.any c.2.2.2 (fun f => cell2F f s))))) (gJc1 s c)))))
  (.ite (decide (c.1 = 3))
   (.ite ((!(decide (c.2.1 = 0))))
   (.ret (.c (.lit false)) (gJc1 s c))
   (.ite ((!(decide ((c.2.2.1.length : Int) = 1))))
    (.ret (.c (.lit false)) (gJc1 s c))
    (.ite ((!(decide ((c.2.2.2.length : Int) = 0))))
    (.ret (.c (.lit false)) (gJc1 s c))
    (.callH 159 [.c (.ptr 0 0 0 0), .c (.ro tVal c.2.2.1)] (gJc1 s c) (.c (.bool (allsF c.2.2.1 s))) (gJc1 s c) [0] <|
     .ite ((!(allsF c.2.2.1 s)))
     (.ret (.c (.lit false)) (gJc1 s c))
     (.callH 160 [.c (.ro tFrame c.2.2.2), .c (.fnc (.fn0 161) (.ptr 1 0 0 0))] (gJc1 s c) (.c (.bool (List.any c.2.2.2 (fun f => cell2F f s)))) (gJc1 s c) [1, 0] <|
     .ret (.c (.bool (!(List.any c.2.2.2 (fun f => cell2F f s))))) (gJc1 s c))))))
   (.ite (decide (c.1 = 4))
   (.callH 108 [.c (.ro tVal c.2.2.1), .c (.fnc (.fn0 157) (.ptr 1 0 0 0))] (gJc1 s c) (.c (.bool (List.any c.2.2.1 (fun v => cell1F v s)))) (gJc1 s c) [1, 0] <|
    .ite ((!(decide ((0 : Int) ≤ c.2.1))))
    (.ret (.c (.lit false)) (gJc1 s c))
    (.ite ((!(!(List.any c.2.2.1 (fun v => cell1F v s)))))
    (.ret (.c (.lit false)) (gJc1 s c))
    (.ite ((!(decide ((c.2.2.2.length : Int) = 0))))
     (.ret (.c (.lit false)) (gJc1 s c))
     (.callH 159 [.c (.ptr 0 0 0 0), .c (.ro tVal c.2.2.1)] (gJc1 s c) (.c (.bool (allsF c.2.2.1 s))) (gJc1 s c) [0] <|
     .ite ((!(allsF c.2.2.1 s)))
     (.ret (.c (.lit false)) (gJc1 s c))
     (.callH 160 [.c (.ro tFrame c.2.2.2), .c (.fnc (.fn0 161) (.ptr 1 0 0 0))] (gJc1 s c) (.c (.bool (List.any c.2.2.2 (fun f => cell2F f s)))) (gJc1 s c) [1, 0] <|
      .ret (.c (.bool (!(List.any c.2.2.2 (fun f => cell2F f s))))) (gJc1 s c))))))
   (.ite (decide (c.1 = 5))
    (.call 113 [.c (.int .i64 c.2.1), .c (.int .i64 0), .c (.int .i64 2)] false (.c (.bool (cwithinF c.2.1 0 2))) <|
    .ite (decide (c.2.1 = 0))
    (.ite ((!(cwithinF c.2.1 0 2)))
     (.ret (.c (.lit false)) (gJc1 s c))
     (.ite ((!(decide ((c.2.2.1.length : Int) = 0))))
     (.ret (.c (.lit false)) (gJc1 s c))
     (.ite ((!(decide ((c.2.2.2.length : Int) = 1))))
      (.ret (.c (.lit false)) (gJc1 s c))
      (.callH 159 [.c (.ptr 0 0 0 0), .c (.ro tVal c.2.2.1)] (gJc1 s c) (.c (.bool (allsF c.2.2.1 s))) (gJc1 s c) [0] <|
      .ite ((!(allsF c.2.2.1 s)))
      (.ret (.c (.lit false)) (gJc1 s c))
      (.callH 160 [.c (.ro tFrame c.2.2.2), .c (.fnc (.fn0 161) (.ptr 1 0 0 0))] (gJc1 s c) (.c (.bool (List.any c.2.2.2 (fun f => cell2F f s)))) (gJc1 s c) [1, 0] <|
       .ret (.c (.bool (!(List.any c.2.2.2 (fun f => cell2F f s))))) (gJc1 s c))))))
    (.ite ((!(cwithinF c.2.1 0 2)))
     (.ret (.c (.lit false)) (gJc1 s c))
     (.ite ((!(decide ((c.2.2.1.length : Int) = 0))))
     (.ret (.c (.lit false)) (gJc1 s c))
     (.ite ((!(decide ((c.2.2.2.length : Int) = 0))))
      (.ret (.c (.lit false)) (gJc1 s c))
      (.callH 159 [.c (.ptr 0 0 0 0), .c (.ro tVal c.2.2.1)] (gJc1 s c) (.c (.bool (allsF c.2.2.1 s))) (gJc1 s c) [0] <|
      .ite ((!(allsF c.2.2.1 s)))
      (.ret (.c (.lit false)) (gJc1 s c))
      (.callH 160 [.c (.ro tFrame c.2.2.2), .c (.fnc (.fn0 161) (.ptr 1 0 0 0))] (gJc1 s c) (.c (.bool (List.any c.2.2.2 (fun f => cell2F f s)))) (gJc1 s c) [1, 0] <|
       .ret (.c (.bool (!(List.any c.2.2.2 (fun f => cell2F f s))))) (gJc1 s c)))))))
    (.ite (decide (c.1 = 6))
    (.call 113 [.c (.int .i64 c.2.1), .c (.int .i64 (-1)), .c (.int .i64 4)] false (.c (.bool (cwithinF c.2.1 (-1) 4))) <|
     .ite ((!(cwithinF c.2.1 (-1) 4)))
     (.ret (.c (.lit false)) (gJc1 s c))
     (.ite ((!(decide ((c.2.2.1.length : Int) = 0))))
     (.ret (.c (.lit false)) (gJc1 s c))
     (.ite ((!(decide ((c.2.2.2.length : Int) = 0))))
      (.ret (.c (.lit false)) (gJc1 s c))
      (.callH 159 [.c (.ptr 0 0 0 0), .c (.ro tVal c.2.2.1)] (gJc1 s c) (.c (.bool (allsF c.2.2.1 s))) (gJc1 s c) [0] <|
      .ite ((!(allsF c.2.2.1 s)))
      (.ret (.c (.lit false)) (gJc1 s c))
      (.callH 160 [.c (.ro tFrame c.2.2.2), .c (.fnc (.fn0 161) (.ptr 1 0 0 0))] (gJc1 s c) (.c (.bool (List.any c.2.2.2 (fun f => cell2F f s)))) (gJc1 s c) [1, 0] <|
       .ret (.c (.bool (!(List.any c.2.2.2 (fun f => cell2F f s))))) (gJc1 s c))))))
    (.ite (decide (c.1 = 7))
     (.callH 158 [.c (.ptr 0 0 0 0), .c (.ro tVal c.2.2.1)] (gJc1 s c) (.c (.bool (weakGo c.2.2.1 0 (fun _ => none)))) (gJc1 s c) [0] <|
     .ite ((!(decide (c.2.1 = 0))))
     (.ret (.c (.lit false)) (gJc1 s c))
     (.ite ((!(weakGo c.2.2.1 0 (fun _ => none))))
      (.ret (.c (.lit false)) (gJc1 s c))
      (.ite ((!(decide ((c.2.2.2.length : Int) = 0))))
      (.ret (.c (.lit false)) (gJc1 s c))
      (.callH 159 [.c (.ptr 0 0 0 0), .c (.ro tVal c.2.2.1)] (gJc1 s c) (.c (.bool (allsF c.2.2.1 s))) (gJc1 s c) [0] <|
       .ite ((!(allsF c.2.2.1 s)))
       (.ret (.c (.lit false)) (gJc1 s c))
       (.callH 160 [.c (.ro tFrame c.2.2.2), .c (.fnc (.fn0 161) (.ptr 1 0 0 0))] (gJc1 s c) (.c (.bool (List.any c.2.2.2 (fun f => cell2F f s)))) (gJc1 s c) [1, 0] <|
       .ret (.c (.bool (!(List.any c.2.2.2 (fun f => cell2F f s))))) (gJc1 s c))))))
     (.ret (.c (.lit false)) (gJc1 s c)))))))))
theorem ccell_fun (c : ECell) (s : EState) (hv : c.2.2.1.length ≤ 1000000) : AFunH Tryz.prog 107 [.c (.ptr 0 0 0 0), .agg (tCell.enc c)] [.cells 40 (Ty.enc tState s)] (.c (.bool (ccellF c s))) [.cells 40 (Ty.enc tState s)] (List.range 1) :=
 AFunH.of ocKk ccell_lv 3000 Tryz.func107 mixed rfl (by decide) (Nat.le_of_ble_eq_true rfl) rfl rfl (Nat.le_refl _) (ccell_T c s) (by kernel_rfl) fun hF => by
  have hs2 := (hF.blk (b := 0) (t := tState) (x := s) rfl).2.1.1
  unfold ccell_T
  refine e_start (ccellF.eq_1 c s) ?_
  repeat' first
   | with_reducible refine e_B (fun _ => ?_) (fun _ => ?_)
   | with_reducible refine e_D (fun _ => ?_) (fun _ => ?_)
   | with_reducible refine e_NB (fun _ => ?_) (fun _ => ?_)
   | with_reducible refine e_ND (fun _ => ?_) (fun _ => ?_)
   | refine e_need (by first | omega | (constructor <;> omega) | (rw [i64_iff]; omega) | (rw [i64_iff]; constructor <;> omega) | rfl | (simp; done)) ?_
   | refine e_callH (AFunH.frameB [0] (alls_fun c.2.2.1 s) rfl rfl rfl rfl rfl rfl rfl) ?_
   | refine e_callH (AFunH.frameB [1, 0] (jCell2C_fun c.2.2.2 s) rfl rfl rfl rfl rfl rfl rfl) ?_
   | refine e_call (cwithin_fun c.2.1 0 ((s.2.1.length : Int) - 1)) (fun h => nomatch h) ?_
   | refine e_call (shnm_fun s.2.1 c.2.1) (fun h => nomatch h) ?_
   | refine e_callH (AFunH.frameB [1, 0] (jCell1C_fun c.2.2.1 s) rfl rfl rfl rfl rfl rfl rfl) ?_
   | refine e_call (cwithin_fun c.2.1 0 2) (fun h => nomatch h) ?_
   | refine e_call (cwithin_fun c.2.1 (-1) 4) (fun h => nomatch h) ?_
   | refine e_callH (AFunH.frameB [0] (weak_fun c.2.2.1 s hv) rfl rfl rfl rfl rfl rfl rfl) ?_
   | exact fun hE => g_rh [0] (kk rfl) (by decide) (by simp only [renA, ren1, renC, leAV, leA1, leC]; first | exact hE.symm | exact ⟨rfl, hE.symm⟩ | exact ⟨trivial, hE.symm⟩) rfl

def lg1F (t : ByteArray) : Bool :=
 decide ((200 : Int) < (t.size : Int))
noncomputable def ocKm : Orc where
 pure := fun f args => match f, args with
  | _, _ => none
 heap := fun _ _ _ => none
def lg1_lv : LV := ⟨([]), []⟩
noncomputable def lg1_T (t : ByteArray) : Tree :=
 .ret (.c (.bool (decide ((200 : Int) < (t.size : Int))))) []
theorem lg1_fun (t : ByteArray) : AFun Tryz.prog 150 [.c (.str t)] (.c (.bool (lg1F t))) :=
 AFun.of ocKm lg1_lv 3000 Tryz.func150 mixed rfl (by decide) (Nat.le_of_ble_eq_true rfl) (lg1_T t) (by kernel_rfl) fun hF => by
  unfold lg1_T
  refine e_start (lg1F.eq_1 t) ?_
  repeat' first
   | exact e_rb

noncomputable def ocKn : Orc where
 pure := fun f args => match f, args with
  | 150, [a0] => match dA .str a0 with
   | some x0 => some (.c (.bool (lg1F x0)))
   | _ => none
  | _, _ => none
 heap := fun _ _ _ => none
def jLg1I_lv : LV := ⟨(true :: true :: F4 (false :: true :: true :: F8 (F2 ([])))), []⟩
noncomputable def jLg1I_T (l : List ByteArray) : Tree :=
 .stop (lp (bodyOf Tryz.f193) 0) (.c (.ro .str l) :: .c (.fn0 150) :: J4 (.junk :: .c (.int .i64 (l.length : Int)) :: .c (.int .i64 0) :: J8 (J2 ([])))) []
noncomputable def jLg1I_l0_R (l : List ByteArray) (i : Nat) : Tree :=
 .ite (decide (((i : Nat) : Int) < (l.length : Int)))
 (.need ((0 : Int) ≤ ((i : Nat) : Int) ∧ (((i : Nat) : Int) : Int) < (l.length : Int)) <|
  .need (i < l.length) <|
  .call 150 [.c (.str (l.getD i (.str : Ty).dflt))] false (.c (.bool (lg1F (l.getD i (.str : Ty).dflt)))) <|
  .ite (lg1F (l.getD i (.str : Ty).dflt))
  (.ret (.c (.int .i64 ((i : Nat) : Int))) [])
  (.need (inR .i64 (((i : Nat) : Int) + 1)) <|
  .stop (lp (bodyOf Tryz.f193) 0) (.c (.ro .str l) :: .c (.fn0 150) :: J4 (.junk :: .c (.int .i64 (l.length : Int)) :: .c (.int .i64 (((i : Nat) : Int) + 1)) :: J8 (J2 ([])))) []))
 (.ret (.c (.int .i64 (-1))) [])
theorem jLg1I_l0 (l : List ByteArray) (i : Nat) (hl : l.length ≤ 9223372036854775807) : Run Tryz.prog 193 (retQ Tryz.prog (.c (.int .i64 (fstG (fun t => lg1F t) i (l.drop i))))) (lp (bodyOf Tryz.f193) 0) (.c (.ro .str l) :: .c (.fn0 150) :: J4 (.junk :: .c (.int .i64 (l.length : Int)) :: .c (.int .i64 ((i : Nat) : Int)) :: J8 (J2 ([])))) [] :=
 Run.roundA ocKn jLg1I_lv 3000 Tryz.func193 mixed (jLg1I_l0_R l i) (by kernel_rfl) (by
  unfold jLg1I_l0_R
  repeat' first
  | with_reducible refine g_iteD (fun h => ?_) (fun h => ?_)
  | with_reducible refine g_ite (fun h => ?_) (fun h => ?_)
  | refine g_need (by first | (omega) | exact i64_iff.2 (by omega)) ?_
  | refine g_call (lg1_fun (l.getD i (.str : Ty).dflt)) (fun h => nomatch h) ?_
  | (exact g_reti (by first | (rw [dropCons (α := ByteArray) (Ty.dflt (.str : Ty)) (by omega)]; simp only [fstG, *, if_true, decide_true]; done) | (rw [List.drop_eq_nil_of_le (by omega)]; rfl)))
  | (refine g_stop (RunN.keep [] (true :: true :: F4 (false :: true :: true :: F8 (F2 ([])))) n0 (by decide) rfl rfl ?_); have := jLg1I_l0 l (i + 1) hl; rw [dropCons (α := ByteArray) (Ty.dflt (.str : Ty)) (by omega)]; simp only [fstG, *, if_false, Bool.false_eq_true, decide_false]; exact this)
  )
 termination_by l.length - i
 decreasing_by all_goals omega
theorem jLg1I_fun (l : List ByteArray) : AFun Tryz.prog 193 [.c (.ro .str l), .c (.fn0 150)] (.c (.int .i64 (fstG (fun t => lg1F t) 0 l))) :=
 AFun.of ocKn jLg1I_lv 3000 Tryz.func193 mixed rfl (by decide) (Nat.le_of_ble_eq_true rfl) (jLg1I_T l) (by kernel_rfl) fun hF => by
  have hl : l.length ≤ 9223372036854775807 := hF.ro.1.1
  unfold jLg1I_T
  refine g_stop (RunN.keep [] (true :: true :: F4 (false :: true :: true :: F8 (F2 ([])))) n0 (by decide) rfl rfl ?_)
  exact jLg1I_l0 l 0 hl

noncomputable def ocKnc : Orc where
 pure := fun f args => match f, args with
  | 193, [a0, .one (.c (.fn0 150))] => match dA (.slice .str) a0 with
   | some x0 => some (.c (.int .i64 (fstG (fun t => lg1F t) 0 x0)))
   | _ => none
  | _, _ => none
 heap := fun _ _ _ => none
def jLg1C_lv : LV := ⟨([]), []⟩
noncomputable def jLg1C_T (l : List ByteArray) : Tree :=
 .call 193 [.c (.ro .str l), .c (.fn0 150)] false (.c (.int .i64 (fstG (fun t => lg1F t) 0 l))) <|
 .ret (.c (.bool (decide ((0 : Int) ≤ fstG (fun t => lg1F t) 0 l)))) []
theorem jLg1C_fun (l : List ByteArray) : AFun Tryz.prog 143 [.c (.ro .str l), .c (.fn0 150)] (.c (.bool (List.any l (fun t => lg1F t)))) :=
 AFun.of ocKnc jLg1C_lv 3000 Tryz.func143 mixed rfl (by decide) (Nat.le_of_ble_eq_true rfl) (jLg1C_T l) (by kernel_rfl) fun hF => by
  unfold jLg1C_T
  refine g_call (jLg1I_fun l) (fun h => nomatch h) ?_
  exact g_retb (by exact fstG_ge)

def lg2F (c : ECell) : Bool :=
 if (100 : Int) < (c.2.2.1.length : Int) then
  if c.1 = 7 then
   decide ((600 : Int) < (c.2.2.1.length : Int))
  else
   true
 else
  false
noncomputable def ocKo : Orc where
 pure := fun f args => match f, args with
  | _, _ => none
 heap := fun _ _ _ => none
def lg2_lv : LV := ⟨([]), []⟩
noncomputable def lg2_T (c : ECell) : Tree :=
 .ite (decide ((100 : Int) < (c.2.2.1.length : Int)))
 (.ite ((!(decide (c.1 = 7))))
  (.ret (.c (.lit true)) [.cells 55 (Ty.enc tCell c)])
  (.ret (.c (.bool (decide ((600 : Int) < (c.2.2.1.length : Int))))) [.cells 55 (Ty.enc tCell c)]))
 (.ret (.c (.lit false)) [.cells 55 (Ty.enc tCell c)])
theorem lg2_fun (c : ECell) : AFun Tryz.prog 151 [.agg (tCell.enc c)] (.c (.bool (lg2F c))) :=
 AFun.of ocKo lg2_lv 3000 Tryz.func151 mixed rfl (by decide) (Nat.le_of_ble_eq_true rfl) (lg2_T c) (by kernel_rfl) fun hF => by
  unfold lg2_T
  refine e_start (lg2F.eq_1 c) ?_
  repeat' first
   | with_reducible refine e_D (fun _ => ?_) (fun _ => ?_)
   | with_reducible refine e_ND (fun _ => ?_) (fun _ => ?_)
   | exact e_rl
   | exact e_rb

noncomputable def ocKp : Orc where
 pure := fun f args => match f, args with
  | 151, [a0] => match dA tCell a0 with
   | some x0 => some (.c (.bool (lg2F x0)))
   | _ => none
  | _, _ => none
 heap := fun _ _ _ => none
def jLg2I_lv : LV := ⟨(true :: true :: F4 (false :: true :: true :: F8 (F2 ([])))), []⟩
noncomputable def jLg2I_T (l : List ECell) : Tree :=
 .stop (lp (bodyOf Tryz.f155) 0) (.c (.ro tCell l) :: .c (.fn0 151) :: J4 (.junk :: .c (.int .i64 (l.length : Int)) :: .c (.int .i64 0) :: J8 (J2 ([])))) []
noncomputable def jLg2I_l0_R (l : List ECell) (i : Nat) : Tree :=
 .ite (decide (((i : Nat) : Int) < (l.length : Int)))
 (.need ((0 : Int) ≤ ((i : Nat) : Int) ∧ (((i : Nat) : Int) : Int) < (l.length : Int)) <|
  .need (i < l.length) <|
  .call 151 [.agg (Ty.enc tCell (l.getD i tCell.dflt))] false (.c (.bool (lg2F (l.getD i tCell.dflt)))) <|
  .ite (lg2F (l.getD i tCell.dflt))
  (.ret (.c (.int .i64 ((i : Nat) : Int))) [])
  (.need (inR .i64 (((i : Nat) : Int) + 1)) <|
  .stop (lp (bodyOf Tryz.f155) 0) (.c (.ro tCell l) :: .c (.fn0 151) :: J4 (.junk :: .c (.int .i64 (l.length : Int)) :: .c (.int .i64 (((i : Nat) : Int) + 1)) :: J8 (J2 ([])))) []))
 (.ret (.c (.int .i64 (-1))) [])
theorem jLg2I_l0 (l : List ECell) (i : Nat) (hl : l.length ≤ 9223372036854775807) : Run Tryz.prog 155 (retQ Tryz.prog (.c (.int .i64 (fstG (fun c => lg2F c) i (l.drop i))))) (lp (bodyOf Tryz.f155) 0) (.c (.ro tCell l) :: .c (.fn0 151) :: J4 (.junk :: .c (.int .i64 (l.length : Int)) :: .c (.int .i64 ((i : Nat) : Int)) :: J8 (J2 ([])))) [] :=
 Run.roundA ocKp jLg2I_lv 3000 Tryz.func155 mixed (jLg2I_l0_R l i) (by kernel_rfl) (by
  unfold jLg2I_l0_R
  repeat' first
  | with_reducible refine g_iteD (fun h => ?_) (fun h => ?_)
  | with_reducible refine g_ite (fun h => ?_) (fun h => ?_)
  | refine g_need (by first | (omega) | exact i64_iff.2 (by omega)) ?_
  | refine g_call (lg2_fun (l.getD i tCell.dflt)) (fun h => nomatch h) ?_
  | (exact g_reti (by first | (rw [dropCons (α := ECell) (Ty.dflt tCell) (by omega)]; simp only [fstG, *, if_true, decide_true]; done) | (rw [List.drop_eq_nil_of_le (by omega)]; rfl)))
  | (refine g_stop (RunN.keep [] (true :: true :: F4 (false :: true :: true :: F8 (F2 ([])))) n0 (by decide) rfl rfl ?_); have := jLg2I_l0 l (i + 1) hl; rw [dropCons (α := ECell) (Ty.dflt tCell) (by omega)]; simp only [fstG, *, if_false, Bool.false_eq_true, decide_false]; exact this)
  )
 termination_by l.length - i
 decreasing_by all_goals omega
theorem jLg2I_fun (l : List ECell) : AFun Tryz.prog 155 [.c (.ro tCell l), .c (.fn0 151)] (.c (.int .i64 (fstG (fun c => lg2F c) 0 l))) :=
 AFun.of ocKp jLg2I_lv 3000 Tryz.func155 mixed rfl (by decide) (Nat.le_of_ble_eq_true rfl) (jLg2I_T l) (by kernel_rfl) fun hF => by
  have hl : l.length ≤ 9223372036854775807 := hF.ro.1.1
  unfold jLg2I_T
  refine g_stop (RunN.keep [] (true :: true :: F4 (false :: true :: true :: F8 (F2 ([])))) n0 (by decide) rfl rfl ?_)
  exact jLg2I_l0 l 0 hl

noncomputable def ocKpc : Orc where
 pure := fun f args => match f, args with
  | 155, [a0, .one (.c (.fn0 151))] => match dA (.slice tCell) a0 with
   | some x0 => some (.c (.int .i64 (fstG (fun c => lg2F c) 0 x0)))
   | _ => none
  | _, _ => none
 heap := fun _ _ _ => none
def jLg2C_lv : LV := ⟨([]), []⟩
noncomputable def jLg2C_T (l : List ECell) : Tree :=
 .call 155 [.c (.ro tCell l), .c (.fn0 151)] false (.c (.int .i64 (fstG (fun c => lg2F c) 0 l))) <|
 .ret (.c (.bool (decide ((0 : Int) ≤ fstG (fun c => lg2F c) 0 l)))) []
theorem jLg2C_fun (l : List ECell) : AFun Tryz.prog 105 [.c (.ro tCell l), .c (.fn0 151)] (.c (.bool (List.any l (fun c => lg2F c)))) :=
 AFun.of ocKpc jLg2C_lv 3000 Tryz.func105 mixed rfl (by decide) (Nat.le_of_ble_eq_true rfl) (jLg2C_T l) (by kernel_rfl) fun hF => by
  unfold jLg2C_T
  refine g_call (jLg2I_fun l) (fun h => nomatch h) ?_
  exact g_retb (by exact fstG_ge)

def clargeF (s : EState) : Bool :=
 if (300 : Int) < (s.1.length : Int) then
  true
 else
  if (300 : Int) < (s.2.2.1.length : Int) then
   true
  else
   if (200 : Int) < (s.2.2.2.2.2.1.length : Int) then
    true
   else
    if (100 : Int) < (s.2.2.2.2.1.length : Int) then
     true
    else
     if List.any s.2.2.1 (fun t => lg1F t) = true then
      true
     else
      List.any s.1 (fun c => lg2F c)
noncomputable def ocKq : Orc where
 pure := fun f args => match f, args with
  | 105, [a0, .one (.c (.fn0 151))] => match dA (.slice tCell) a0 with
   | some x0 => some (.c (.bool (List.any x0 (fun c => lg2F c))))
   | _ => none
  | 143, [a0, .one (.c (.fn0 150))] => match dA (.slice .str) a0 with
   | some x0 => some (.c (.bool (List.any x0 (fun t => lg1F t))))
   | _ => none
  | _, _ => none
 heap := fun _ _ _ => none
def clarge_lv : LV := ⟨([]), []⟩
noncomputable def clarge_T (s : EState) : Tree :=
 .ite (decide ((300 : Int) < (s.1.length : Int)))
 (.ret (.c (.lit true)) [.cells 40 (Ty.enc tState s)])
 (.ite (decide ((300 : Int) < (s.2.2.1.length : Int)))
  (.ret (.c (.lit true)) [.cells 40 (Ty.enc tState s)])
  (.ite (decide ((200 : Int) < (s.2.2.2.2.2.1.length : Int)))
  (.ret (.c (.lit true)) [.cells 40 (Ty.enc tState s)])
  (.ite (decide ((100 : Int) < (s.2.2.2.2.1.length : Int)))
   (.ret (.c (.lit true)) [.cells 40 (Ty.enc tState s)])
   (.call 143 [.c (.ro .str s.2.2.1), .c (.fn0 150)] false (.c (.bool (List.any s.2.2.1 (fun t => lg1F t)))) <|
   .ite (List.any s.2.2.1 (fun t => lg1F t))
   (.ret (.c (.lit true)) [.cells 40 (Ty.enc tState s)])
   (.call 105 [.c (.ro tCell s.1), .c (.fn0 151)] false (.c (.bool (List.any s.1 (fun c => lg2F c)))) <|
    .ret (.c (.bool (List.any s.1 (fun c => lg2F c)))) [.cells 40 (Ty.enc tState s)])))))
theorem clarge_fun (s : EState) : AFunH Tryz.prog 100 [.c (.ptr 0 0 0 0)] [.cells 40 (Ty.enc tState s)] (.c (.bool (clargeF s))) [.cells 40 (Ty.enc tState s)] (List.range 1) :=
 AFunH.of ocKq clarge_lv 3000 Tryz.func100 mixed rfl (by decide) (Nat.le_of_ble_eq_true rfl) rfl rfl (Nat.le_refl _) (clarge_T s) (by kernel_rfl) fun hF => by
  unfold clarge_T
  refine e_start (clargeF.eq_1 s) ?_
  repeat' first
   | with_reducible refine e_B (fun _ => ?_) (fun _ => ?_)
   | with_reducible refine e_D (fun _ => ?_) (fun _ => ?_)
   | refine e_call (jLg1C_fun s.2.2.1) (fun h => nomatch h) ?_
   | refine e_call (jLg2C_fun s.1) (fun h => nomatch h) ?_
   | exact fun hE => g_rh [0] (kk rfl) (by decide) (by simp only [renA, ren1, renC, leAV, leA1, leC]; first | exact hE.symm | exact ⟨rfl, hE.symm⟩ | exact ⟨trivial, hE.symm⟩) rfl

noncomputable def txGo (l : List ByteArray) (k : Nat) (m : ByteArray → Option Int) : Bool :=
 if k < l.length then (if (m (l.getD k (Ty.dflt .str))).getD 0 = 1 then false else if (k : Int) < (wordsL.length : Int) ∧ l.getD k (Ty.dflt .str) ≠ wordsL.getD k (Ty.dflt .str) then false else txGo l (k + 1) (updM (kt := .str) m (l.getD k (Ty.dflt .str)) (1 : Int))) else decide ((wordsL.length : Int) ≤ (l.length : Int))
termination_by l.length - k
noncomputable def ocKr : Orc where
 pure := fun f args => match f, args with
  | 146, [] => some (.c (.ro .str (wordsL)))
  | _, _ => none
 heap := fun _ _ _ => none
def texts_lv : LV := ⟨(true :: F2 (true :: true :: F4 (true :: true :: true :: F16 (F8 (F4 (F2 ([]))))))), []⟩
noncomputable def texts_T (l : List ByteArray) : Tree :=
 .call 146 [] false (.c (.ro .str wordsL)) <|
 .need (Tryz.prog = Tryz.prog) <|
 .stop (lp (bodyOf Tryz.f102) 0) (.c (.ro .str l) :: J2 (.c (.ro .str wordsL) :: .c (.map 0) :: J4 (.c (.ro .str l) :: .c (.int .i64 (l.length : Int)) :: .c (.int .i64 0) :: J16 (J8 (J4 (J2 ([]))))))) [.map 9 .str tI 0 (fun _ => none)]
noncomputable def texts_l0_R (l : List ByteArray) (k : Nat) (n : Nat) (m : ByteArray → Option Int) : Tree :=
 .ite (decide (((k : Nat) : Int) < (l.length : Int)))
 (.need ((0 : Int) ≤ ((k : Nat) : Int) ∧ (((k : Nat) : Int) : Int) < (l.length : Int)) <|
  .need (k < l.length) <|
  .need (Tryz.prog = Tryz.prog ∧ MapLaw Tryz.prog 9 .str) <|
  .ite (decide (((m (l.getD k (.str : Ty).dflt)).getD 0) = 1))
  (.ret (.c (.lit false)) [.map 9 .str tI n m])
  (.ite (decide (((k : Nat) : Int) < (wordsL.length : Int)))
  (.need ((0 : Int) ≤ ((k : Nat) : Int) ∧ (((k : Nat) : Int) : Int) < (wordsL.length : Int)) <|
   .need (k < wordsL.length) <|
   .ite ((!(decide ((l.getD k (.str : Ty).dflt) = (wordsL.getD k (.str : Ty).dflt)))))
   (.ret (.c (.lit false)) [.map 9 .str tI n m])
   (.need (Tryz.prog = Tryz.prog ∧ MapLaw Tryz.prog 9 .str ∧ n < 140737488355328) <|
   .need (inR .i64 (((k : Nat) : Int) + 1)) <|
   .stop (lp (bodyOf Tryz.f102) 0) (.c (.ro .str l) :: J2 (.c (.ro .str wordsL) :: .c (.map 0) :: J4 (.c (.ro .str l) :: .c (.int .i64 (l.length : Int)) :: .c (.int .i64 (((k : Nat) : Int) + 1)) :: J16 (J8 (J4 (J2 ([]))))))) [.map 9 .str tI (n + 1) (updM (kt := .str) m (l.getD k (.str : Ty).dflt) (1 : Int))]))
  (.need (Tryz.prog = Tryz.prog ∧ MapLaw Tryz.prog 9 .str ∧ n < 140737488355328) <|
   .need (inR .i64 (((k : Nat) : Int) + 1)) <|
   .stop (lp (bodyOf Tryz.f102) 0) (.c (.ro .str l) :: J2 (.c (.ro .str wordsL) :: .c (.map 0) :: J4 (.c (.ro .str l) :: .c (.int .i64 (l.length : Int)) :: .c (.int .i64 (((k : Nat) : Int) + 1)) :: J16 (J8 (J4 (J2 ([]))))))) [.map 9 .str tI (n + 1) (updM (kt := .str) m (l.getD k (.str : Ty).dflt) (1 : Int))])))
 (.ret (.c (.bool (decide ((wordsL.length : Int) ≤ (l.length : Int))))) [.map 9 .str tI n m])
theorem texts_l0 (l : List ByteArray) (k : Nat) (n : Nat) (m : ByteArray → Option Int) (hb : l.length ≤ 1000000) (hn : n ≤ k) : Run Tryz.prog 102 (retQ Tryz.prog (.c (.bool (txGo l k m)))) (lp (bodyOf Tryz.f102) 0) (.c (.ro .str l) :: J2 (.c (.ro .str wordsL) :: .c (.map 0) :: J4 (.c (.ro .str l) :: .c (.int .i64 (l.length : Int)) :: .c (.int .i64 ((k : Nat) : Int)) :: J16 (J8 (J4 (J2 ([]))))))) [.map 9 .str tI n m] :=
 Run.roundA ocKr texts_lv 3000 Tryz.func102 mixed (texts_l0_R l k n m) (by kernel_rfl) (by
  unfold texts_l0_R
  repeat' first
  | with_reducible refine g_iteND (fun h => ?_) (fun h => ?_)
  | with_reducible refine g_iteD (fun h => ?_) (fun h => ?_)
  | refine g_need (by first | (omega) | (first | omega | exact ⟨rfl, lawStr⟩ | exact ⟨rfl, lawStr, by omega⟩ | (rw [i64_iff]; omega) | (constructor <;> omega) | rfl)) ?_
  | (exact g_retl (by first | (rw [txGo, if_pos (by omega), if_pos (by assumption)]; done) | (rw [txGo, if_pos (by omega), if_neg (by assumption), if_pos (by constructor <;> assumption)]; done) | (rw [txGo, if_neg (by omega)])))
  | (refine g_stop (RunN.keep [0] (true :: F2 (true :: true :: F4 (true :: true :: true :: F16 (F8 (F4 (F2 ([]))))))) n0 (by decide) rfl rfl ?_); have ht := texts_l0 l (k + 1) (n + 1) (updM (kt := .str) m (l.getD k (.str : Ty).dflt) (1 : Int)) hb (by omega); rw [txGo, if_pos (by omega), if_neg (by assumption), if_neg (by intro q; first | omega | exact absurd q.1 (by assumption) | exact q.2 (by assumption) | exact absurd q.2 (by assumption))]; exact ht)
  | (exact g_retb (by first | (rw [txGo, if_pos (by omega), if_pos (by assumption)]; done) | (rw [txGo, if_pos (by omega), if_neg (by assumption), if_pos (by constructor <;> assumption)]; done) | (rw [txGo, if_neg (by omega)])))
  )
 termination_by l.length - k
 decreasing_by all_goals omega
theorem texts_fun (l : List ByteArray) (hb : l.length ≤ 1000000) : AFun Tryz.prog 102 [.c (.ro .str l)] (.c (.bool (txGo l 0 (fun _ => none)))) :=
 AFun.of ocKr texts_lv 3000 Tryz.func102 mixed rfl (by decide) (Nat.le_of_ble_eq_true rfl) (texts_T l) (by kernel_rfl) fun hF => by
  unfold texts_T
  refine g_call (words_fun) (fun h => nomatch h) ?_
  refine g_need (rfl) ?_
  refine g_stop (RunN.keep [0] (true :: F2 (true :: true :: F4 (true :: true :: true :: F16 (F8 (F4 (F2 ([]))))))) n0 (by decide) rfl rfl ?_)
  exact texts_l0 l 0 0 (fun _ => none) hb (Nat.le_refl _)

theorem large_parts {s : EState} (h : clargeF s = false) : s.1.length ≤ 300 ∧ s.2.2.1.length ≤ 300 ∧ s.2.2.2.2.2.1.length ≤ 200 ∧ s.2.2.2.2.1.length ≤ 100 ∧ ∀ c ∈ s.1, c.2.2.1.length ≤ 600 := by
 unfold clargeF at h
 split at h
 ·cases h
 split at h
 ·cases h
 split at h
 ·cases h
 split at h
 ·cases h
 split at h
 ·cases h
 refine ⟨by omega, by omega, by omega, by omega, fun c hc => ?_⟩
 have hq := (List.any_eq_false.1 h) c hc
 unfold lg2F at hq
 split at hq
 ·split at hq
  ·simp at hq; omega
  ·simp at hq
 ·omega
theorem large_vals {s : EState} (h : clargeF s = false) : ∀ c ∈ s.1, c.2.2.1.length ≤ 1000000 := fun c hc => by
 have := (large_parts h).2.2.2.2 c hc; omega
def ck1F (x : EVal) (s : EState) : Bool :=
 decide ((s.2.2.1.length : Int) ≤ x.2)
noncomputable def ocKs : Orc where
 pure := fun f args => match f, args with
  | _, _ => none
 heap := fun _ _ _ => none
def ck1_lv : LV := ⟨([]), []⟩
noncomputable def ck1_T (x : EVal) (s : EState) : Tree :=
 .ret (.c (.bool (decide ((s.2.2.1.length : Int) ≤ x.2)))) [.cells 40 (Ty.enc tState s), .cells 51 (Ty.enc tVal x)]
theorem ck1_fun (x : EVal) (s : EState) : AFunH Tryz.prog 104 [.agg (tVal.enc x), .c (.ptr 0 0 0 0)] [.cells 40 (Ty.enc tState s)] (.c (.bool (ck1F x s))) [.cells 40 (Ty.enc tState s)] (List.range 1) :=
 AFunH.of ocKs ck1_lv 3000 Tryz.func104 mixed rfl (by decide) (Nat.le_of_ble_eq_true rfl) rfl rfl (Nat.le_refl _) (ck1_T x s) (by kernel_rfl) fun hF => by
  unfold ck1_T
  refine e_start (ck1F.eq_1 x s) ?_
  repeat' first
   | exact fun hE => g_rh [0] (kk rfl) (by decide) (by simp only [renA, ren1, renC, leAV, leA1, leC]; first | exact hE.symm | exact ⟨rfl, hE.symm⟩ | exact ⟨trivial, hE.symm⟩) rfl

noncomputable def ocKt : Orc where
 pure := fun f args => match f, args with
  | _, _ => none
 heap := fun f args H => match f, args with
  | 104, [a0, .one (.c (.ptr b0 0 0 0))] => (match cellsAs 40 H[b0]? with
   | some c0 => (match dA tVal a0, dCs tState c0 with
    | some x0, some y0_0 => hres [b0] H (.c (.bool (ck1F x0 y0_0))) [.cells 40 (Ty.enc tState y0_0)]
    | _, _ => none)
   | _ => none)
  | _, _ => none
def jCk1I_lv : LV := ⟨(true :: true :: F4 (false :: true :: true :: F8 (F2 ([])))), []⟩
noncomputable def jCk1I_T (l : List EVal) (s : EState) : Tree :=
 .stop (lp (bodyOf Tryz.f154) 0) (.c (.ro tVal l) :: .c (.fnc (.fn0 104) (.ptr 0 0 0 0)) :: J4 (.junk :: .c (.int .i64 (l.length : Int)) :: .c (.int .i64 0) :: J8 (J2 ([])))) [.cells 40 (Ty.enc tState s)]
noncomputable def jCk1I_l0_R (l : List EVal) (s : EState) (i : Nat) : Tree :=
 .ite (decide (((i : Nat) : Int) < (l.length : Int)))
 (.need ((0 : Int) ≤ ((i : Nat) : Int) ∧ (((i : Nat) : Int) : Int) < (l.length : Int)) <|
  .need (i < l.length) <|
  .callH 104 [.agg (Ty.enc tVal (l.getD i tVal.dflt)), .c (.ptr 0 0 0 0)] [.cells 40 (Ty.enc tState s)] (.c (.bool (ck1F (l.getD i tVal.dflt) s))) [.cells 40 (Ty.enc tState s)] [0] <|
  .ite (ck1F (l.getD i tVal.dflt) s)
  (.ret (.c (.int .i64 ((i : Nat) : Int))) [.cells 40 (Ty.enc tState s)])
  (.need (inR .i64 (((i : Nat) : Int) + 1)) <|
  .stop (lp (bodyOf Tryz.f154) 0) (.c (.ro tVal l) :: .c (.fnc (.fn0 104) (.ptr 0 0 0 0)) :: J4 (gJc3 l i)) [.cells 40 (Ty.enc tState s)]))
 (.ret (.c (.int .i64 (-1))) [.cells 40 (Ty.enc tState s)])
theorem jCk1I_l0 (l : List EVal) (s : EState) (i : Nat) (hl : l.length ≤ 9223372036854775807) : RunN 1 Tryz.prog 154 (retH 1 (.c (.int .i64 (fstG (fun x => ck1F x s) i (l.drop i)))) [.cells 40 (Ty.enc tState s)]) (lp (bodyOf Tryz.f154) 0) (.c (.ro tVal l) :: .c (.fnc (.fn0 104) (.ptr 0 0 0 0)) :: J4 (.junk :: .c (.int .i64 (l.length : Int)) :: .c (.int .i64 ((i : Nat) : Int)) :: J8 (J2 ([])))) [.cells 40 (Ty.enc tState s)] :=
 Run.roundA ocKt jCk1I_lv 3000 Tryz.func154 mixed (jCk1I_l0_R l s i) (by kernel_rfl) (by
  unfold jCk1I_l0_R
  repeat' first
  | with_reducible refine g_iteD (fun h => ?_) (fun h => ?_)
  | with_reducible refine g_ite (fun h => ?_) (fun h => ?_)
  | refine g_need (by first | (omega) | exact i64_iff.2 (by omega)) ?_
  | refine g_callH (AFunH.frameB [0] (ck1_fun (l.getD i tVal.dflt) s) rfl rfl rfl rfl rfl rfl rfl) ?_
  | (exact g_rh [0] (kk rfl) (by decide) (by simp only [renA, ren1, renC, leAV, leA1, leC]; refine ⟨trivial, ?_⟩; first | (rw [dropCons (α := EVal) (Ty.dflt tVal) (by omega)]; simp only [fstG, *, if_true, decide_true]; done) | (rw [List.drop_eq_nil_of_le (by omega)]; rfl)) rfl)
  | (refine g_stop (RunN.keep [0] (true :: true :: F4 (false :: true :: true :: F8 (F2 ([])))) (kk rfl) (by decide) rfl rfl ?_); have := jCk1I_l0 l s (i + 1) hl; rw [dropCons (α := EVal) (Ty.dflt tVal) (by omega)]; simp only [fstG, *, if_false, Bool.false_eq_true, decide_false]; exact this)
  )
 termination_by l.length - i
 decreasing_by all_goals omega
theorem jCk1I_fun (l : List EVal) (s : EState) : AFunH Tryz.prog 154 [.c (.ro tVal l), .c (.fnc (.fn0 104) (.ptr 0 0 0 0))] [.cells 40 (Ty.enc tState s)] (.c (.int .i64 (fstG (fun x => ck1F x s) 0 l))) [.cells 40 (Ty.enc tState s)] (List.range 1) :=
 AFunH.of ocKt jCk1I_lv 3000 Tryz.func154 mixed rfl (by decide) (Nat.le_of_ble_eq_true rfl) rfl rfl (Nat.le_refl _) (jCk1I_T l s) (by kernel_rfl) fun hF => by
  have hl : l.length ≤ 9223372036854775807 := (hF.ro (i := 0) rfl).1
  unfold jCk1I_T
  refine g_stop (RunN.keep [0] (true :: true :: F4 (false :: true :: true :: F8 (F2 ([])))) (kk rfl) (by decide) rfl rfl ?_)
  exact jCk1I_l0 l s 0 hl

noncomputable def ocKtc : Orc where
 pure := fun f args => match f, args with
  | _, _ => none
 heap := fun f args H => match f, args with
  | 154, [a0, .one (.c (.fnc (.fn0 104) (.ptr b0 0 0 0)))] => (match cellsAs 40 H[b0]? with
   | some c0 => (match dA (.slice tVal) a0, dCs tState c0 with
    | some x0, some y0_0 => hres [b0] H (.c (.int .i64 (fstG (fun x => ck1F x y0_0) 0 x0))) [.cells 40 (Ty.enc tState y0_0)]
    | _, _ => none)
   | _ => none)
  | _, _ => none
def jCk1C_lv : LV := ⟨([]), []⟩
noncomputable def jCk1C_T (l : List EVal) (s : EState) : Tree :=
 .callH 154 [.c (.ro tVal l), .c (.fnc (.fn0 104) (.ptr 0 0 0 0))] [.cells 40 (Ty.enc tState s)] (.c (.int .i64 (fstG (fun x => ck1F x s) 0 l))) [.cells 40 (Ty.enc tState s)] [0] <|
 .ret (.c (.bool (decide ((0 : Int) ≤ fstG (fun x => ck1F x s) 0 l)))) [.cells 40 (Ty.enc tState s)]
theorem jCk1C_fun (l : List EVal) (s : EState) : AFunH Tryz.prog 103 [.c (.ro tVal l), .c (.fnc (.fn0 104) (.ptr 0 0 0 0))] [.cells 40 (Ty.enc tState s)] (.c (.bool (List.any l (fun x => ck1F x s)))) [.cells 40 (Ty.enc tState s)] (List.range 1) :=
 AFunH.of ocKtc jCk1C_lv 3000 Tryz.func103 mixed rfl (by decide) (Nat.le_of_ble_eq_true rfl) rfl rfl (Nat.le_refl _) (jCk1C_T l s) (by kernel_rfl) fun hF => by
  unfold jCk1C_T
  refine g_callH (AFunH.frameB [0] (jCk1I_fun l s) rfl rfl rfl rfl rfl rfl rfl) ?_
  exact g_rh [0] (kk rfl) (by decide) (by simp only [renA, ren1, renC, leAV, leA1, leC]; exact fstG_ge) rfl

def ck2F (c : ECell) (s : EState) : Bool :=
 (!(ccellF c s))
noncomputable def ocKu : Orc where
 pure := fun f args => match f, args with
  | _, _ => none
 heap := fun f args H => match f, args with
  | 107, [.one (.c (.ptr b0 0 0 0)), a1] => (match cellsAs 40 H[b0]? with
   | some c0 => (match dA tCell a1, dCs tState c0 with
    | some x1, some y0_0 => hres [b0] H (.c (.bool (ccellF x1 y0_0))) [.cells 40 (Ty.enc tState y0_0)]
    | _, _ => none)
   | _ => none)
  | _, _ => none
def ck2_lv : LV := ⟨([]), []⟩
noncomputable def ck2_T (c : ECell) (s : EState) : Tree :=
 .callH 107 [.c (.ptr 0 0 0 0), .agg (Ty.enc tCell c)] [.cells 40 (Ty.enc tState s), .cells 55 (Ty.enc tCell c)] (.c (.bool (ccellF c s))) [.cells 40 (Ty.enc tState s), .cells 55 (Ty.enc tCell c)] [0] <|
 .ret (.c (.bool (!(ccellF c s)))) [.cells 40 (Ty.enc tState s), .cells 55 (Ty.enc tCell c)]
theorem ck2_fun (c : ECell) (s : EState) (hv : c.2.2.1.length ≤ 1000000) : AFunH Tryz.prog 106 [.agg (tCell.enc c), .c (.ptr 0 0 0 0)] [.cells 40 (Ty.enc tState s)] (.c (.bool (ck2F c s))) [.cells 40 (Ty.enc tState s)] (List.range 1) :=
 AFunH.of ocKu ck2_lv 3000 Tryz.func106 mixed rfl (by decide) (Nat.le_of_ble_eq_true rfl) rfl rfl (Nat.le_refl _) (ck2_T c s) (by kernel_rfl) fun hF => by
  unfold ck2_T
  refine e_start (ck2F.eq_1 c s) ?_
  repeat' first
   | refine e_callH (AFunH.frameB [0] (ccell_fun c s hv) rfl rfl rfl rfl rfl rfl rfl) ?_
   | exact fun hE => g_rh [0] (kk rfl) (by decide) (by simp only [renA, ren1, renC, leAV, leA1, leC]; first | exact hE.symm | exact ⟨rfl, hE.symm⟩ | exact ⟨trivial, hE.symm⟩) rfl

noncomputable def ocKv : Orc where
 pure := fun f args => match f, args with
  | _, _ => none
 heap := fun f args H => match f, args with
  | 106, [a0, .one (.c (.ptr b0 0 0 0))] => (match cellsAs 40 H[b0]? with
   | some c0 => (match dA tCell a0, dCs tState c0 with
    | some x0, some y0_0 => hres [b0] H (.c (.bool (ck2F x0 y0_0))) [.cells 40 (Ty.enc tState y0_0)]
    | _, _ => none)
   | _ => none)
  | _, _ => none
def jCk2I_lv : LV := ⟨(true :: true :: F4 (false :: true :: true :: F8 (F2 ([])))), []⟩
noncomputable def jCk2I_T (l : List ECell) (s : EState) : Tree :=
 .stop (lp (bodyOf Tryz.f155) 0) (.c (.ro tCell l) :: .c (.fnc (.fn0 106) (.ptr 0 0 0 0)) :: J4 (.junk :: .c (.int .i64 (l.length : Int)) :: .c (.int .i64 0) :: J8 (J2 ([])))) [.cells 40 (Ty.enc tState s)]
noncomputable def jCk2I_l0_R (l : List ECell) (s : EState) (i : Nat) : Tree :=
 .ite (decide (((i : Nat) : Int) < (l.length : Int)))
 (.need ((0 : Int) ≤ ((i : Nat) : Int) ∧ (((i : Nat) : Int) : Int) < (l.length : Int)) <|
  .need (i < l.length) <|
  .callH 106 [.agg (Ty.enc tCell (l.getD i tCell.dflt)), .c (.ptr 0 0 0 0)] [.cells 40 (Ty.enc tState s)] (.c (.bool (ck2F (l.getD i tCell.dflt) s))) [.cells 40 (Ty.enc tState s)] [0] <|
  .ite (ck2F (l.getD i tCell.dflt) s)
  (.ret (.c (.int .i64 ((i : Nat) : Int))) [.cells 40 (Ty.enc tState s)])
  (.need (inR .i64 (((i : Nat) : Int) + 1)) <|
  .stop (lp (bodyOf Tryz.f155) 0) (.c (.ro tCell l) :: .c (.fnc (.fn0 106) (.ptr 0 0 0 0)) :: J4 (.junk :: .c (.int .i64 (l.length : Int)) :: .c (.int .i64 (((i : Nat) : Int) + 1)) :: J8 (J2 ([])))) [.cells 40 (Ty.enc tState s)]))
 (.ret (.c (.int .i64 (-1))) [.cells 40 (Ty.enc tState s)])
theorem jCk2I_l0 (l : List ECell) (s : EState) (i : Nat) (hl : l.length ≤ 9223372036854775807) (hv : ∀ c ∈ l, c.2.2.1.length ≤ 1000000) : RunN 1 Tryz.prog 155 (retH 1 (.c (.int .i64 (fstG (fun c => ck2F c s) i (l.drop i)))) [.cells 40 (Ty.enc tState s)]) (lp (bodyOf Tryz.f155) 0) (.c (.ro tCell l) :: .c (.fnc (.fn0 106) (.ptr 0 0 0 0)) :: J4 (.junk :: .c (.int .i64 (l.length : Int)) :: .c (.int .i64 ((i : Nat) : Int)) :: J8 (J2 ([])))) [.cells 40 (Ty.enc tState s)] :=
 Run.roundA ocKv jCk2I_lv 3000 Tryz.func155 mixed (jCk2I_l0_R l s i) (by kernel_rfl) (by
  unfold jCk2I_l0_R
  repeat' first
  | with_reducible refine g_iteD (fun h => ?_) (fun h => ?_)
  | with_reducible refine g_ite (fun h => ?_) (fun h => ?_)
  | refine g_need (by first | (omega) | exact i64_iff.2 (by omega)) ?_
  | refine g_callH (AFunH.frameB [0] (ck2_fun (l.getD i tCell.dflt) s (hv _ (getD_mem (α := ECell) (Ty.dflt tCell) (by omega)))) rfl rfl rfl rfl rfl rfl rfl) ?_
  | (exact g_rh [0] (kk rfl) (by decide) (by simp only [renA, ren1, renC, leAV, leA1, leC]; refine ⟨trivial, ?_⟩; first | (rw [dropCons (α := ECell) (Ty.dflt tCell) (by omega)]; simp only [fstG, *, if_true, decide_true]; done) | (rw [List.drop_eq_nil_of_le (by omega)]; rfl)) rfl)
  | (refine g_stop (RunN.keep [0] (true :: true :: F4 (false :: true :: true :: F8 (F2 ([])))) (kk rfl) (by decide) rfl rfl ?_); have := jCk2I_l0 l s (i + 1) hl hv; rw [dropCons (α := ECell) (Ty.dflt tCell) (by omega)]; simp only [fstG, *, if_false, Bool.false_eq_true, decide_false]; exact this)
  )
 termination_by l.length - i
 decreasing_by all_goals omega
theorem jCk2I_fun (l : List ECell) (s : EState) (hv : ∀ c ∈ l, c.2.2.1.length ≤ 1000000) : AFunH Tryz.prog 155 [.c (.ro tCell l), .c (.fnc (.fn0 106) (.ptr 0 0 0 0))] [.cells 40 (Ty.enc tState s)] (.c (.int .i64 (fstG (fun c => ck2F c s) 0 l))) [.cells 40 (Ty.enc tState s)] (List.range 1) :=
 AFunH.of ocKv jCk2I_lv 3000 Tryz.func155 mixed rfl (by decide) (Nat.le_of_ble_eq_true rfl) rfl rfl (Nat.le_refl _) (jCk2I_T l s) (by kernel_rfl) fun hF => by
  have hl : l.length ≤ 9223372036854775807 := (hF.ro (i := 0) rfl).1
  unfold jCk2I_T
  refine g_stop (RunN.keep [0] (true :: true :: F4 (false :: true :: true :: F8 (F2 ([])))) (kk rfl) (by decide) rfl rfl ?_)
  exact jCk2I_l0 l s 0 hl hv

noncomputable def ocKvc : Orc where
 pure := fun f args => match f, args with
  | 155, [a0, .one (.c (.fn0 151))] => match dA (.slice tCell) a0 with
   | some x0 => some (.c (.int .i64 (fstG (fun c => lg2F c) 0 x0)))
   | _ => none
  | _, _ => none
 heap := fun f args H => match f, args with
  | 155, [a0, .one (.c (.fnc (.fn0 106) (.ptr b0 0 0 0)))] => (match cellsAs 40 H[b0]? with
   | some c0 => (match dA (.slice tCell) a0, dCs tState c0 with
    | some x0, some y0_0 => hres [b0] H (.c (.int .i64 (fstG (fun c => ck2F c y0_0) 0 x0))) [.cells 40 (Ty.enc tState y0_0)]
    | _, _ => none)
   | _ => none)
  | _, _ => none
def jCk2C_lv : LV := ⟨([]), []⟩
noncomputable def jCk2C_T (l : List ECell) (s : EState) : Tree :=
 .callH 155 [.c (.ro tCell l), .c (.fnc (.fn0 106) (.ptr 0 0 0 0))] [.cells 40 (Ty.enc tState s)] (.c (.int .i64 (fstG (fun c => ck2F c s) 0 l))) [.cells 40 (Ty.enc tState s)] [0] <|
 .ret (.c (.bool (decide ((0 : Int) ≤ fstG (fun c => ck2F c s) 0 l)))) [.cells 40 (Ty.enc tState s)]
theorem jCk2C_fun (l : List ECell) (s : EState) (hv : ∀ c ∈ l, c.2.2.1.length ≤ 1000000) : AFunH Tryz.prog 105 [.c (.ro tCell l), .c (.fnc (.fn0 106) (.ptr 0 0 0 0))] [.cells 40 (Ty.enc tState s)] (.c (.bool (List.any l (fun c => ck2F c s)))) [.cells 40 (Ty.enc tState s)] (List.range 1) :=
 AFunH.of ocKvc jCk2C_lv 3000 Tryz.func105 mixed rfl (by decide) (Nat.le_of_ble_eq_true rfl) rfl rfl (Nat.le_refl _) (jCk2C_T l s) (by kernel_rfl) fun hF => by
  unfold jCk2C_T
  refine g_callH (AFunH.frameB [0] (jCk2I_fun l s hv) rfl rfl rfl rfl rfl rfl rfl) ?_
  exact g_rh [0] (kk rfl) (by decide) (by simp only [renA, ren1, renC, leAV, leA1, leC]; exact fstG_ge) rfl

def ck3F (v : EVal) (s : EState) : Bool :=
 if v.1 = 4 then
  (!(fitsF v s))
 else
  true
noncomputable def ocKw : Orc where
 pure := fun f args => match f, args with
  | _, _ => none
 heap := fun f args H => match f, args with
  | 110, [.one (.c (.ptr b0 0 0 0)), a1] => (match cellsAs 40 H[b0]? with
   | some c0 => (match dA tVal a1, dCs tState c0 with
    | some x1, some y0_0 => hres [b0] H (.c (.bool (fitsF x1 y0_0))) [.cells 40 (Ty.enc tState y0_0)]
    | _, _ => none)
   | _ => none)
  | _, _ => none
def ck3_lv : LV := ⟨([]), []⟩
noncomputable def ck3_T (v : EVal) (s : EState) : Tree :=
 .ite ((!(decide (v.1 = 4))))
 (.ret (.c (.lit true)) (gJc5 s v))
 (.callH 110 [.c (.ptr 0 0 0 0), .agg (Ty.enc tVal v)] (gJc5 s v) (.c (.bool (fitsF v s))) (gJc5 s v) [0] <|
  .ret (.c (.bool (!(fitsF v s)))) (gJc5 s v))
theorem ck3_fun (v : EVal) (s : EState) : AFunH Tryz.prog 109 [.agg (tVal.enc v), .c (.ptr 0 0 0 0)] [.cells 40 (Ty.enc tState s)] (.c (.bool (ck3F v s))) [.cells 40 (Ty.enc tState s)] (List.range 1) :=
 AFunH.of ocKw ck3_lv 3000 Tryz.func109 mixed rfl (by decide) (Nat.le_of_ble_eq_true rfl) rfl rfl (Nat.le_refl _) (ck3_T v s) (by kernel_rfl) fun hF => by
  unfold ck3_T
  refine e_start (ck3F.eq_1 v s) ?_
  repeat' first
   | with_reducible refine e_ND (fun _ => ?_) (fun _ => ?_)
   | refine e_callH (AFunH.frameB [0] (fits_fun v s) rfl rfl rfl rfl rfl rfl rfl) ?_
   | exact fun hE => g_rh [0] (kk rfl) (by decide) (by simp only [renA, ren1, renC, leAV, leA1, leC]; first | exact hE.symm | exact ⟨rfl, hE.symm⟩ | exact ⟨trivial, hE.symm⟩) rfl

noncomputable def ocKx : Orc where
 pure := fun f args => match f, args with
  | _, _ => none
 heap := fun f args H => match f, args with
  | 109, [a0, .one (.c (.ptr b0 0 0 0))] => (match cellsAs 40 H[b0]? with
   | some c0 => (match dA tVal a0, dCs tState c0 with
    | some x0, some y0_0 => hres [b0] H (.c (.bool (ck3F x0 y0_0))) [.cells 40 (Ty.enc tState y0_0)]
    | _, _ => none)
   | _ => none)
  | _, _ => none
def jCk3I_lv : LV := ⟨(true :: true :: F4 (false :: true :: true :: F8 (F2 ([])))), []⟩
noncomputable def jCk3I_T (l : List EVal) (s : EState) : Tree :=
 .stop (lp (bodyOf Tryz.f162) 0) (.c (.ro tVal l) :: .c (.fnc (.fn0 109) (.ptr 0 0 0 0)) :: J4 (.junk :: .c (.int .i64 (l.length : Int)) :: .c (.int .i64 0) :: J8 (J2 ([])))) [.cells 40 (Ty.enc tState s)]
noncomputable def jCk3I_l0_R (l : List EVal) (s : EState) (i : Nat) : Tree :=
 .ite (decide (((i : Nat) : Int) < (l.length : Int)))
 (.need ((0 : Int) ≤ ((i : Nat) : Int) ∧ (((i : Nat) : Int) : Int) < (l.length : Int)) <|
  .need (i < l.length) <|
  .callH 109 [.agg (Ty.enc tVal (l.getD i tVal.dflt)), .c (.ptr 0 0 0 0)] [.cells 40 (Ty.enc tState s)] (.c (.bool (ck3F (l.getD i tVal.dflt) s))) [.cells 40 (Ty.enc tState s)] [0] <|
  .ite (ck3F (l.getD i tVal.dflt) s)
  (.ret (.c (.int .i64 ((i : Nat) : Int))) [.cells 40 (Ty.enc tState s)])
  (.need (inR .i64 (((i : Nat) : Int) + 1)) <|
  .stop (lp (bodyOf Tryz.f162) 0) (.c (.ro tVal l) :: .c (.fnc (.fn0 109) (.ptr 0 0 0 0)) :: J4 (gJc3 l i)) [.cells 40 (Ty.enc tState s)]))
 (.ret (.c (.int .i64 (-1))) [.cells 40 (Ty.enc tState s)])
theorem jCk3I_l0 (l : List EVal) (s : EState) (i : Nat) (hl : l.length ≤ 9223372036854775807) : RunN 1 Tryz.prog 162 (retH 1 (.c (.int .i64 (fstG (fun v => ck3F v s) i (l.drop i)))) [.cells 40 (Ty.enc tState s)]) (lp (bodyOf Tryz.f162) 0) (.c (.ro tVal l) :: .c (.fnc (.fn0 109) (.ptr 0 0 0 0)) :: J4 (.junk :: .c (.int .i64 (l.length : Int)) :: .c (.int .i64 ((i : Nat) : Int)) :: J8 (J2 ([])))) [.cells 40 (Ty.enc tState s)] :=
 Run.roundA ocKx jCk3I_lv 3000 Tryz.func162 mixed (jCk3I_l0_R l s i) (by kernel_rfl) (by
  unfold jCk3I_l0_R
  repeat' first
  | with_reducible refine g_iteD (fun h => ?_) (fun h => ?_)
  | with_reducible refine g_ite (fun h => ?_) (fun h => ?_)
  | refine g_need (by first | (omega) | exact i64_iff.2 (by omega)) ?_
  | refine g_callH (AFunH.frameB [0] (ck3_fun (l.getD i tVal.dflt) s) rfl rfl rfl rfl rfl rfl rfl) ?_
  | (exact g_rh [0] (kk rfl) (by decide) (by simp only [renA, ren1, renC, leAV, leA1, leC]; refine ⟨trivial, ?_⟩; first | (rw [dropCons (α := EVal) (Ty.dflt tVal) (by omega)]; simp only [fstG, *, if_true, decide_true]; done) | (rw [List.drop_eq_nil_of_le (by omega)]; rfl)) rfl)
  | (refine g_stop (RunN.keep [0] (true :: true :: F4 (false :: true :: true :: F8 (F2 ([])))) (kk rfl) (by decide) rfl rfl ?_); have := jCk3I_l0 l s (i + 1) hl; rw [dropCons (α := EVal) (Ty.dflt tVal) (by omega)]; simp only [fstG, *, if_false, Bool.false_eq_true, decide_false]; exact this)
  )
 termination_by l.length - i
 decreasing_by all_goals omega
theorem jCk3I_fun (l : List EVal) (s : EState) : AFunH Tryz.prog 162 [.c (.ro tVal l), .c (.fnc (.fn0 109) (.ptr 0 0 0 0))] [.cells 40 (Ty.enc tState s)] (.c (.int .i64 (fstG (fun v => ck3F v s) 0 l))) [.cells 40 (Ty.enc tState s)] (List.range 1) :=
 AFunH.of ocKx jCk3I_lv 3000 Tryz.func162 mixed rfl (by decide) (Nat.le_of_ble_eq_true rfl) rfl rfl (Nat.le_refl _) (jCk3I_T l s) (by kernel_rfl) fun hF => by
  have hl : l.length ≤ 9223372036854775807 := (hF.ro (i := 0) rfl).1
  unfold jCk3I_T
  refine g_stop (RunN.keep [0] (true :: true :: F4 (false :: true :: true :: F8 (F2 ([])))) (kk rfl) (by decide) rfl rfl ?_)
  exact jCk3I_l0 l s 0 hl

noncomputable def ocKxc : Orc where
 pure := fun f args => match f, args with
  | _, _ => none
 heap := fun f args H => match f, args with
  | 162, [a0, .one (.c (.fnc (.fn0 109) (.ptr b0 0 0 0)))] => (match cellsAs 40 H[b0]? with
   | some c0 => (match dA (.slice tVal) a0, dCs tState c0 with
    | some x0, some y0_0 => hres [b0] H (.c (.int .i64 (fstG (fun v => ck3F v y0_0) 0 x0))) [.cells 40 (Ty.enc tState y0_0)]
    | _, _ => none)
   | _ => none)
  | _, _ => none
def jCk3C_lv : LV := ⟨([]), []⟩
noncomputable def jCk3C_T (l : List EVal) (s : EState) : Tree :=
 .callH 162 [.c (.ro tVal l), .c (.fnc (.fn0 109) (.ptr 0 0 0 0))] [.cells 40 (Ty.enc tState s)] (.c (.int .i64 (fstG (fun v => ck3F v s) 0 l))) [.cells 40 (Ty.enc tState s)] [0] <|
 .ret (.c (.bool (decide ((0 : Int) ≤ fstG (fun v => ck3F v s) 0 l)))) [.cells 40 (Ty.enc tState s)]
theorem jCk3C_fun (l : List EVal) (s : EState) : AFunH Tryz.prog 108 [.c (.ro tVal l), .c (.fnc (.fn0 109) (.ptr 0 0 0 0))] [.cells 40 (Ty.enc tState s)] (.c (.bool (List.any l (fun v => ck3F v s)))) [.cells 40 (Ty.enc tState s)] (List.range 1) :=
 AFunH.of ocKxc jCk3C_lv 3000 Tryz.func108 mixed rfl (by decide) (Nat.le_of_ble_eq_true rfl) rfl rfl (Nat.le_refl _) (jCk3C_T l s) (by kernel_rfl) fun hF => by
  unfold jCk3C_T
  refine g_callH (AFunH.frameB [0] (jCk3I_fun l s) rfl rfl rfl rfl rfl rfl rfl) ?_
  exact g_rh [0] (kk rfl) (by decide) (by simp only [renA, ren1, renC, leAV, leA1, leC]; exact fstG_ge) rfl

def ck4F (e : EEnd) (s : EState) : Bool :=
 if (cwithinF e.1 0 ((s.1.length : Int) - 1)) = true then
  (!(iscF e.2 4 s))
 else
  true
noncomputable def ocKy : Orc where
 pure := fun f args => match f, args with
  | 113, [a0, a1, a2] => match dA tI a0, dA tI a1, dA tI a2 with
   | some x0, some x1, some x2 => some (.c (.bool (cwithinF x0 x1 x2)))
   | _, _, _ => none
  | _, _ => none
 heap := fun f args H => match f, args with
  | 114, [.one (.c (.ptr b0 0 0 0)), a1, a2] => (match cellsAs 40 H[b0]? with
   | some c0 => (match dA tVal a1, dA tI a2, dCs tState c0 with
    | some x1, some x2, some y0_0 => hres [b0] H (.c (.bool (iscF x1 x2 y0_0))) [.cells 40 (Ty.enc tState y0_0)]
    | _, _, _ => none)
   | _ => none)
  | _, _ => none
def ck4_lv : LV := ⟨([]), []⟩
noncomputable def ck4_T (e : EEnd) (s : EState) : Tree :=
 .need (inR .i64 ((s.1.length : Int) - 1)) <|
 .call 113 [.c (.int .i64 e.1), .c (.int .i64 0), .c (.int .i64 ((s.1.length : Int) - 1))] false (.c (.bool (cwithinF e.1 0 ((s.1.length : Int) - 1)))) <|
 .ite ((!(cwithinF e.1 0 ((s.1.length : Int) - 1))))
 (.ret (.c (.lit true)) [.cells 40 (Ty.enc tState s), .cells 112 (Ty.enc tEnd e)])
 (.callH 114 [.c (.ptr 0 0 0 0), .agg (Ty.enc tVal e.2), .c (.int .i64 4)] [.cells 40 (Ty.enc tState s), .cells 112 (Ty.enc tEnd e)] (.c (.bool (iscF e.2 4 s))) [.cells 40 (Ty.enc tState s), .cells 112 (Ty.enc tEnd e)] [0] <|
  .ret (.c (.bool (!(iscF e.2 4 s)))) [.cells 40 (Ty.enc tState s), .cells 112 (Ty.enc tEnd e)])
theorem ck4_fun (e : EEnd) (s : EState) : AFunH Tryz.prog 112 [.agg (tEnd.enc e), .c (.ptr 0 0 0 0)] [.cells 40 (Ty.enc tState s)] (.c (.bool (ck4F e s))) [.cells 40 (Ty.enc tState s)] (List.range 1) :=
 AFunH.of ocKy ck4_lv 3000 Tryz.func112 mixed rfl (by decide) (Nat.le_of_ble_eq_true rfl) rfl rfl (Nat.le_refl _) (ck4_T e s) (by kernel_rfl) fun hF => by
  have hs2 := (hF.blk (b := 0) (t := tState) (x := s) rfl).1.1
  unfold ck4_T
  refine e_start (ck4F.eq_1 e s) ?_
  repeat' first
   | with_reducible refine e_NB (fun _ => ?_) (fun _ => ?_)
   | refine e_need (by first | omega | (constructor <;> omega) | (rw [i64_iff]; omega) | (rw [i64_iff]; constructor <;> omega) | rfl | (simp; done)) ?_
   | refine e_call (cwithin_fun e.1 0 ((s.1.length : Int) - 1)) (fun h => nomatch h) ?_
   | refine e_callH (AFunH.frameB [0] (isc_fun e.2 4 s) rfl rfl rfl rfl rfl rfl rfl) ?_
   | exact fun hE => g_rh [0] (kk rfl) (by decide) (by simp only [renA, ren1, renC, leAV, leA1, leC]; first | exact hE.symm | exact ⟨rfl, hE.symm⟩ | exact ⟨trivial, hE.symm⟩) rfl

noncomputable def ocKz : Orc where
 pure := fun f args => match f, args with
  | _, _ => none
 heap := fun f args H => match f, args with
  | 112, [a0, .one (.c (.ptr b0 0 0 0))] => (match cellsAs 40 H[b0]? with
   | some c0 => (match dA tEnd a0, dCs tState c0 with
    | some x0, some y0_0 => hres [b0] H (.c (.bool (ck4F x0 y0_0))) [.cells 40 (Ty.enc tState y0_0)]
    | _, _ => none)
   | _ => none)
  | _, _ => none
def jCk4I_lv : LV := ⟨(true :: true :: F4 (false :: true :: true :: F8 (F2 ([])))), []⟩
noncomputable def jCk4I_T (l : List EEnd) (s : EState) : Tree :=
 .stop (lp (bodyOf Tryz.f163) 0) (.c (.ro tEnd l) :: .c (.fnc (.fn0 112) (.ptr 0 0 0 0)) :: J4 (.junk :: .c (.int .i64 (l.length : Int)) :: .c (.int .i64 0) :: J8 (J2 ([])))) [.cells 40 (Ty.enc tState s)]
noncomputable def jCk4I_l0_R (l : List EEnd) (s : EState) (i : Nat) : Tree :=
 .ite (decide (((i : Nat) : Int) < (l.length : Int)))
 (.need ((0 : Int) ≤ ((i : Nat) : Int) ∧ (((i : Nat) : Int) : Int) < (l.length : Int)) <|
  .need (i < l.length) <|
  .callH 112 [.agg (Ty.enc tEnd (l.getD i tEnd.dflt)), .c (.ptr 0 0 0 0)] [.cells 40 (Ty.enc tState s)] (.c (.bool (ck4F (l.getD i tEnd.dflt) s))) [.cells 40 (Ty.enc tState s)] [0] <|
  .ite (ck4F (l.getD i tEnd.dflt) s)
  (.ret (.c (.int .i64 ((i : Nat) : Int))) [.cells 40 (Ty.enc tState s)])
  (.need (inR .i64 (((i : Nat) : Int) + 1)) <|
  .stop (lp (bodyOf Tryz.f163) 0) (.c (.ro tEnd l) :: .c (.fnc (.fn0 112) (.ptr 0 0 0 0)) :: J4 (.junk :: .c (.int .i64 (l.length : Int)) :: .c (.int .i64 (((i : Nat) : Int) + 1)) :: J8 (J2 ([])))) [.cells 40 (Ty.enc tState s)]))
 (.ret (.c (.int .i64 (-1))) [.cells 40 (Ty.enc tState s)])
theorem jCk4I_l0 (l : List EEnd) (s : EState) (i : Nat) (hl : l.length ≤ 9223372036854775807) : RunN 1 Tryz.prog 163 (retH 1 (.c (.int .i64 (fstG (fun e => ck4F e s) i (l.drop i)))) [.cells 40 (Ty.enc tState s)]) (lp (bodyOf Tryz.f163) 0) (.c (.ro tEnd l) :: .c (.fnc (.fn0 112) (.ptr 0 0 0 0)) :: J4 (.junk :: .c (.int .i64 (l.length : Int)) :: .c (.int .i64 ((i : Nat) : Int)) :: J8 (J2 ([])))) [.cells 40 (Ty.enc tState s)] :=
 Run.roundA ocKz jCk4I_lv 3000 Tryz.func163 mixed (jCk4I_l0_R l s i) (by kernel_rfl) (by
  unfold jCk4I_l0_R
  repeat' first
  | with_reducible refine g_iteD (fun h => ?_) (fun h => ?_)
  | with_reducible refine g_ite (fun h => ?_) (fun h => ?_)
  | refine g_need (by first | (omega) | exact i64_iff.2 (by omega)) ?_
  | refine g_callH (AFunH.frameB [0] (ck4_fun (l.getD i tEnd.dflt) s) rfl rfl rfl rfl rfl rfl rfl) ?_
  | (exact g_rh [0] (kk rfl) (by decide) (by simp only [renA, ren1, renC, leAV, leA1, leC]; refine ⟨trivial, ?_⟩; first | (rw [dropCons (α := EEnd) (Ty.dflt tEnd) (by omega)]; simp only [fstG, *, if_true, decide_true]; done) | (rw [List.drop_eq_nil_of_le (by omega)]; rfl)) rfl)
  | (refine g_stop (RunN.keep [0] (true :: true :: F4 (false :: true :: true :: F8 (F2 ([])))) (kk rfl) (by decide) rfl rfl ?_); have := jCk4I_l0 l s (i + 1) hl; rw [dropCons (α := EEnd) (Ty.dflt tEnd) (by omega)]; simp only [fstG, *, if_false, Bool.false_eq_true, decide_false]; exact this)
  )
 termination_by l.length - i
 decreasing_by all_goals omega
theorem jCk4I_fun (l : List EEnd) (s : EState) : AFunH Tryz.prog 163 [.c (.ro tEnd l), .c (.fnc (.fn0 112) (.ptr 0 0 0 0))] [.cells 40 (Ty.enc tState s)] (.c (.int .i64 (fstG (fun e => ck4F e s) 0 l))) [.cells 40 (Ty.enc tState s)] (List.range 1) :=
 AFunH.of ocKz jCk4I_lv 3000 Tryz.func163 mixed rfl (by decide) (Nat.le_of_ble_eq_true rfl) rfl rfl (Nat.le_refl _) (jCk4I_T l s) (by kernel_rfl) fun hF => by
  have hl : l.length ≤ 9223372036854775807 := (hF.ro (i := 0) rfl).1
  unfold jCk4I_T
  refine g_stop (RunN.keep [0] (true :: true :: F4 (false :: true :: true :: F8 (F2 ([])))) (kk rfl) (by decide) rfl rfl ?_)
  exact jCk4I_l0 l s 0 hl

noncomputable def ocKzc : Orc where
 pure := fun f args => match f, args with
  | _, _ => none
 heap := fun f args H => match f, args with
  | 163, [a0, .one (.c (.fnc (.fn0 112) (.ptr b0 0 0 0)))] => (match cellsAs 40 H[b0]? with
   | some c0 => (match dA (.slice tEnd) a0, dCs tState c0 with
    | some x0, some y0_0 => hres [b0] H (.c (.int .i64 (fstG (fun e => ck4F e y0_0) 0 x0))) [.cells 40 (Ty.enc tState y0_0)]
    | _, _ => none)
   | _ => none)
  | _, _ => none
def jCk4C_lv : LV := ⟨([]), []⟩
noncomputable def jCk4C_T (l : List EEnd) (s : EState) : Tree :=
 .callH 163 [.c (.ro tEnd l), .c (.fnc (.fn0 112) (.ptr 0 0 0 0))] [.cells 40 (Ty.enc tState s)] (.c (.int .i64 (fstG (fun e => ck4F e s) 0 l))) [.cells 40 (Ty.enc tState s)] [0] <|
 .ret (.c (.bool (decide ((0 : Int) ≤ fstG (fun e => ck4F e s) 0 l)))) [.cells 40 (Ty.enc tState s)]
theorem jCk4C_fun (l : List EEnd) (s : EState) : AFunH Tryz.prog 111 [.c (.ro tEnd l), .c (.fnc (.fn0 112) (.ptr 0 0 0 0))] [.cells 40 (Ty.enc tState s)] (.c (.bool (List.any l (fun e => ck4F e s)))) [.cells 40 (Ty.enc tState s)] (List.range 1) :=
 AFunH.of ocKzc jCk4C_lv 3000 Tryz.func111 mixed rfl (by decide) (Nat.le_of_ble_eq_true rfl) rfl rfl (Nat.le_refl _) (jCk4C_T l s) (by kernel_rfl) fun hF => by
  unfold jCk4C_T
  refine g_callH (AFunH.frameB [0] (jCk4I_fun l s) rfl rfl rfl rfl rfl rfl rfl) ?_
  exact g_rh [0] (kk rfl) (by decide) (by simp only [renA, ren1, renC, leAV, leA1, leC]; exact fstG_ge) rfl

noncomputable def cckF (s : EState) : Int :=
 if clargeF s = true then
  2
 else
  if shCheck s.2.1 = 0 then
   if (txGo s.2.2.1 0 (fun _ => none)) = true then
    if List.any s.2.1 (fun x => ck1F x s) = true then
     3
    else
     if List.any s.1 (fun c => ck2F c s) = true then
      3
     else
      if List.any s.2.2.2.2.2.1 (fun v => ck3F v s) = true then
       3
      else
       if List.any s.2.2.2.2.1 (fun e => ck4F e s) = true then
        3
       else
        0
   else
    3
  else
   shCheck s.2.1
noncomputable def ocKA : Orc where
 pure := fun f args => match f, args with
  | 101, [a0] => match dA (.slice tVal) a0 with
   | some x0 => some (.c (.int .i64 (shCheck x0)))
   | _ => none
  | 102, [a0] => match dA (.slice .str) a0 with
   | some x0 => some (.c (.bool (txGo x0 0 (fun _ => none))))
   | _ => none
  | _, _ => none
 heap := fun f args H => match f, args with
  | 100, [.one (.c (.ptr b0 0 0 0))] => (match cellsAs 40 H[b0]? with
   | some c0 => (match dCs tState c0 with
    | some y0_0 => hres [b0] H (.c (.bool (clargeF y0_0))) [.cells 40 (Ty.enc tState y0_0)]
    | _ => none)
   | _ => none)
  | 103, [a0, .one (.c (.fnc (.fn0 104) (.ptr b0 0 0 0)))] => (match cellsAs 40 H[b0]? with
   | some c0 => (match dA (.slice tVal) a0, dCs tState c0 with
    | some x0, some y0_0 => hres [b0] H (.c (.bool (List.any x0 (fun x => ck1F x y0_0)))) [.cells 40 (Ty.enc tState y0_0)]
    | _, _ => none)
   | _ => none)
  | 105, [a0, .one (.c (.fnc (.fn0 106) (.ptr b0 0 0 0)))] => (match cellsAs 40 H[b0]? with
   | some c0 => (match dA (.slice tCell) a0, dCs tState c0 with
    | some x0, some y0_0 => hres [b0] H (.c (.bool (List.any x0 (fun c => ck2F c y0_0)))) [.cells 40 (Ty.enc tState y0_0)]
    | _, _ => none)
   | _ => none)
  | 108, [a0, .one (.c (.fnc (.fn0 109) (.ptr b0 0 0 0)))] => (match cellsAs 40 H[b0]? with
   | some c0 => (match dA (.slice tVal) a0, dCs tState c0 with
    | some x0, some y0_0 => hres [b0] H (.c (.bool (List.any x0 (fun v => ck3F v y0_0)))) [.cells 40 (Ty.enc tState y0_0)]
    | _, _ => none)
   | _ => none)
  | 111, [a0, .one (.c (.fnc (.fn0 112) (.ptr b0 0 0 0)))] => (match cellsAs 40 H[b0]? with
   | some c0 => (match dA (.slice tEnd) a0, dCs tState c0 with
    | some x0, some y0_0 => hres [b0] H (.c (.bool (List.any x0 (fun e => ck4F e y0_0)))) [.cells 40 (Ty.enc tState y0_0)]
    | _, _ => none)
   | _ => none)
  | _, _ => none
def cck_lv : LV := ⟨([]), []⟩
noncomputable def cck_T (s : EState) : Tree :=
 .callH 100 [.c (.ptr 0 0 0 0)] [.cells 40 (Ty.enc tState s)] (.c (.bool (clargeF s))) [.cells 40 (Ty.enc tState s)] [0] <|
 .ite (clargeF s)
 (.ret (.c (.int .i64 2)) [.cells 40 (Ty.enc tState s)])
 (.call 101 [.c (.ro tVal s.2.1)] false (.c (.int .i64 (shCheck s.2.1))) <|
  .ite ((!(decide (shCheck s.2.1 = 0))))
  (.ret (.c (.int .i64 (shCheck s.2.1))) [.cells 40 (Ty.enc tState s)])
  (.call 102 [.c (.ro .str s.2.2.1)] false (.c (.bool (txGo s.2.2.1 0 (fun _ => none)))) <|
  .ite ((!(txGo s.2.2.1 0 (fun _ => none))))
  (.ret (.c (.int .i64 3)) [.cells 40 (Ty.enc tState s)])
  (.callH 103 [.c (.ro tVal s.2.1), .c (.fnc (.fn0 104) (.ptr 0 0 0 0))] [.cells 40 (Ty.enc tState s)] (.c (.bool (List.any s.2.1 (fun x => ck1F x s)))) [.cells 40 (Ty.enc tState s)] [0] <|
   .ite (List.any s.2.1 (fun x => ck1F x s))
   (.ret (.c (.int .i64 3)) [.cells 40 (Ty.enc tState s)])
   (.callH 105 [.c (.ro tCell s.1), .c (.fnc (.fn0 106) (.ptr 0 0 0 0))] [.cells 40 (Ty.enc tState s)] (.c (.bool (List.any s.1 (fun c => ck2F c s)))) [.cells 40 (Ty.enc tState s)] [0] <|
   .ite (List.any s.1 (fun c => ck2F c s))
   (.ret (.c (.int .i64 3)) [.cells 40 (Ty.enc tState s)])
   (.callH 108 [.c (.ro tVal s.2.2.2.2.2.1), .c (.fnc (.fn0 109) (.ptr 0 0 0 0))] [.cells 40 (Ty.enc tState s)] (.c (.bool (List.any s.2.2.2.2.2.1 (fun v => ck3F v s)))) [.cells 40 (Ty.enc tState s)] [0] <|
    .ite (List.any s.2.2.2.2.2.1 (fun v => ck3F v s))
    (.ret (.c (.int .i64 3)) [.cells 40 (Ty.enc tState s)])
    (.callH 111 [.c (.ro tEnd s.2.2.2.2.1), .c (.fnc (.fn0 112) (.ptr 0 0 0 0))] [.cells 40 (Ty.enc tState s)] (.c (.bool (List.any s.2.2.2.2.1 (fun e => ck4F e s)))) [.cells 40 (Ty.enc tState s)] [0] <|
    .ite (List.any s.2.2.2.2.1 (fun e => ck4F e s))
    (.ret (.c (.int .i64 3)) [.cells 40 (Ty.enc tState s)])
    (.ret (.c (.int .i64 0)) [.cells 40 (Ty.enc tState s)])))))))
theorem cck_fun (s : EState) : AFun Tryz.prog 56 [.agg (tState.enc s)] (.c (.int .i64 (cckF s))) :=
 AFun.of ocKA cck_lv 3000 Tryz.func56 mixed rfl (by decide) (Nat.le_of_ble_eq_true rfl) (cck_T s) (by kernel_rfl) fun hF => by
  unfold cck_T
  refine e_start (cckF.eq_1 s) ?_
  repeat' first
   | with_reducible refine e_B (fun _ => ?_) (fun _ => ?_)
   | with_reducible refine e_NB (fun _ => ?_) (fun _ => ?_)
   | with_reducible refine e_ND (fun _ => ?_) (fun _ => ?_)
   | refine e_callH (AFunH.frameB [0] (clarge_fun s) rfl rfl rfl rfl rfl rfl rfl) ?_
   | refine e_call (shck_fun s.2.1) (fun h => nomatch h) ?_
   | refine e_call (texts_fun s.2.2.1 (by have := (large_parts (by assumption)).2.1; omega)) (fun h => nomatch h) ?_
   | refine e_callH (AFunH.frameB [0] (jCk1C_fun s.2.1 s) rfl rfl rfl rfl rfl rfl rfl) ?_
   | refine e_callH (AFunH.frameB [0] (jCk2C_fun s.1 s (large_vals (by assumption))) rfl rfl rfl rfl rfl rfl rfl) ?_
   | refine e_callH (AFunH.frameB [0] (jCk3C_fun s.2.2.2.2.2.1 s) rfl rfl rfl rfl rfl rfl rfl) ?_
   | refine e_callH (AFunH.frameB [0] (jCk4C_fun s.2.2.2.2.1 s) rfl rfl rfl rfl rfl rfl rfl) ?_
   | exact fun hE => g_reti hE.symm

end Go.Proofs.YtkonkblfckhcbaaGreatDoor
namespace Go.Proofs.YtkonkblfckhcbaaGreatDoor
set_option maxHeartbeats 4000000
set_option linter.unusedVariables false
set_option linter.unusedSimpArgs false
set_option maxRecDepth 100000
def FitsF (v : EVal) (s : EState) : Bool :=
 fitsF v s
noncomputable def ocLa : Orc where
 pure := fun f args => match f, args with
  | _, _ => none
 heap := fun f args H => match f, args with
  | 110, [.one (.c (.ptr b0 0 0 0)), a1] => (match cellsAs 40 H[b0]? with
   | some c0 => (match dA tVal a1, dCs tState c0 with
    | some x1, some y0_0 => hres [b0] H (.c (.bool (fitsF x1 y0_0))) [.cells 40 (Ty.enc tState y0_0)]
    | _, _ => none)
   | _ => none)
  | _, _ => none
def Fits_lv : LV := ⟨([]), []⟩
noncomputable def Fits_T (v : EVal) (s : EState) : Tree :=
 .callH 110 [.c (.ptr 0 0 0 0), .agg (Ty.enc tVal v)] [.cells 40 (Ty.enc tState s), .cells 48 (Ty.enc tVal v)] (.c (.bool (fitsF v s))) [.cells 40 (Ty.enc tState s), .cells 48 (Ty.enc tVal v)] [0] <|
 .ret (.c (.bool (fitsF v s))) [.cells 40 (Ty.enc tState s), .cells 48 (Ty.enc tVal v)]
theorem Fits_fun (v : EVal) (s : EState) : AFunH Tryz.prog 167 [.c (.ptr 0 0 0 0), .agg (tVal.enc v)] [.cells 40 (Ty.enc tState s)] (.c (.bool (FitsF v s))) [.cells 40 (Ty.enc tState s)] (List.range 1) :=
 AFunH.of ocLa Fits_lv 3000 Tryz.func167 mixed rfl (by decide) (Nat.le_of_ble_eq_true rfl) rfl rfl (Nat.le_refl _) (Fits_T v s) (by kernel_rfl) fun hF => by
  unfold Fits_T
  refine e_start (FitsF.eq_1 v s) ?_
  repeat' first
   | refine e_callH (AFunH.frameB [0] (fits_fun v s) rfl rfl rfl rfl rfl rfl rfl) ?_
   | exact fun hE => g_rh [0] (kk rfl) (by decide) (by simp only [renA, ren1, renC, leAV, leA1, leC]; first | exact hE.symm | exact ⟨rfl, hE.symm⟩ | exact ⟨trivial, hE.symm⟩) rfl

def swithinF (n : Int) (low : Int) (high : Int) : Bool :=
 if low ≤ n then
  decide (n ≤ high)
 else
  false
noncomputable def ocLb : Orc where
 pure := fun f args => match f, args with
  | _, _ => none
 heap := fun _ _ _ => none
def swithin_lv : LV := ⟨([]), []⟩
noncomputable def swithin_T (n : Int) (low : Int) (high : Int) : Tree :=
 .ite (decide (low ≤ n))
 (.ret (.c (.bool (decide (n ≤ high)))) [])
 (.ret (.c (.lit false)) [])
theorem swithin_fun (n : Int) (low : Int) (high : Int) : AFun Tryz.prog 117 [.c (.int .i64 n), .c (.int .i64 low), .c (.int .i64 high)] (.c (.bool (swithinF n low high))) :=
 AFun.of ocLb swithin_lv 3000 Tryz.func117 mixed rfl (by decide) (Nat.le_of_ble_eq_true rfl) (swithin_T n low high) (by kernel_rfl) fun hF => by
  unfold swithin_T
  refine e_start (swithinF.eq_1 n low high) ?_
  repeat' first
   | with_reducible refine e_D (fun _ => ?_) (fun _ => ?_)
   | exact e_rb
   | exact e_rl

/-- What a program's ways are. -/
def lookOk (p : EProg) (tr : List (List (List EVal))) (wy : List (List Bool)) : Prop := tr.length = p.1.length ∧ wy.length = p.1.length ∧ ∀ k : Nat, k < p.1.length → (tr.getD k (Ty.dflt (.slice (.slice tVal)))).length = (p.1.getD k tFn.dflt).2.2.2.2.length ∧ (wy.getD k (Ty.dflt (.slice .bool))).length = (p.1.getD k tFn.dflt).2.2.2.2.length
theorem swithin_iff {n low high : Int} : swithinF n low high = true ↔ low ≤ n ∧ n ≤ high := by
 unfold swithinF
 split <;> simp <;> omega
def lcellF (v : EVal) (kind : Int) (p : EProg) (tr : List (List (List EVal))) (wy : List (List Bool)) (s : EState) : ECell × Bool :=
 if v.1 = 5 then
  if v.2 < 0 then
   ((0, (0, ([], []))), false)
  else
   if (s.1.length : Int) ≤ v.2 then
    ((0, (0, ([], []))), false)
   else
    if (s.1.getD (Int.toNat v.2) tCell.dflt).1 = kind then
     ((s.1.getD (Int.toNat v.2) tCell.dflt), true)
    else
     ((0, (0, ([], []))), false)
 else
  ((0, (0, ([], []))), false)
noncomputable def ocLc : Orc where
 pure := fun f args => match f, args with
  | _, _ => none
 heap := fun _ _ _ => none
def lcell_lv : LV := ⟨([]), []⟩
abbrev gJd0 (p : EProg) (tr : List (List (List EVal))) (wy : List (List Bool)) : List CV := [.ro tFn p.1, .ro tVal p.2.1, .ro .str p.2.2, .ptr 1 0 0 0, .ro (.slice (.slice tVal)) tr, .ro (.slice .bool) wy, .map 2]
noncomputable def lcell_T (v : EVal) (kind : Int) (p : EProg) (tr : List (List (List EVal))) (wy : List (List Bool)) (s : EState) (n : Nat) (m : Int → Option Int) : Tree :=
 .ite ((!(decide (v.1 = 5))))
 (.ret (.tup [.agg [.int .i64 0, .int .i64 0, .nilsl, .nilsl], .c (.lit false)]) [.cells 123 (gJd0 p tr wy), .cells 40 (Ty.enc tState s), .map 3 tI tI n m, .cells 48 (Ty.enc tVal v), .cells 55 [.int .i64 0, .int .i64 0, .nilsl, .nilsl]])
 (.ite (decide (v.2 < 0))
  (.ret (.tup [.agg [.int .i64 0, .int .i64 0, .nilsl, .nilsl], .c (.lit false)]) [.cells 123 (gJd0 p tr wy), .cells 40 (Ty.enc tState s), .map 3 tI tI n m, .cells 48 (Ty.enc tVal v), .cells 55 [.int .i64 0, .int .i64 0, .nilsl, .nilsl]])
  (.ite (decide ((s.1.length : Int) ≤ v.2))
  (.ret (.tup [.agg [.int .i64 0, .int .i64 0, .nilsl, .nilsl], .c (.lit false)]) [.cells 123 (gJd0 p tr wy), .cells 40 (Ty.enc tState s), .map 3 tI tI n m, .cells 48 (Ty.enc tVal v), .cells 55 [.int .i64 0, .int .i64 0, .nilsl, .nilsl]])
  (.need ((0 : Int) ≤ v.2 ∧ (v.2 : Int) < (s.1.length : Int)) <|
   .need ((Int.toNat v.2) < s.1.length) <|
   .ite ((!(decide ((s.1.getD (Int.toNat v.2) tCell.dflt).1 = kind))))
   (.ret (.tup [.agg [.int .i64 0, .int .i64 0, .nilsl, .nilsl], .c (.lit false)]) [.cells 123 (gJd0 p tr wy), .cells 40 (Ty.enc tState s), .map 3 tI tI n m, .cells 48 (Ty.enc tVal v), .cells 55 [.int .i64 0, .int .i64 0, .nilsl, .nilsl]])
   (.need ((0 : Int) ≤ v.2 ∧ (v.2 : Int) < (s.1.length : Int)) <|
   .need ((Int.toNat v.2) < s.1.length) <|
   .ret (.tup [.agg (Ty.enc tCell (s.1.getD (Int.toNat v.2) tCell.dflt)), .c (.lit true)]) [.cells 123 (gJd0 p tr wy), .cells 40 (Ty.enc tState s), .map 3 tI tI n m, .cells 48 (Ty.enc tVal v), .cells 55 (Ty.enc tCell (s.1.getD (Int.toNat v.2) tCell.dflt))]))))
theorem lcell_fun (v : EVal) (kind : Int) (p : EProg) (tr : List (List (List EVal))) (wy : List (List Bool)) (s : EState) (n : Nat) (m : Int → Option Int) : AFunH Tryz.prog 168 [.c (.ptr 0 0 0 0), .agg (tVal.enc v), .c (.int .i64 kind)] [.cells 123 (gJd0 p tr wy), .cells 40 (Ty.enc tState s), .map 3 tI tI n m] (.tup [.agg (Ty.enc tCell ((lcellF v kind p tr wy s).1)), .c (.bool ((lcellF v kind p tr wy s).2))]) [.cells 123 (gJd0 p tr wy), .cells 40 (Ty.enc tState s), .map 3 tI tI n m] (List.range 3) :=
 AFunH.ofL ocLc lcell_lv 3000 Tryz.func168 mixed rfl (by decide) (Nat.le_of_ble_eq_true rfl) rfl rfl (Nat.le_of_ble_eq_true rfl) (lcell_T v kind p tr wy s n m) (by kernel_rfl) fun hF => by
  unfold lcell_T
  refine e_start (lcellF.eq_1 v kind p tr wy s) ?_
  repeat' first
   | with_reducible refine e_D (fun _ => ?_) (fun _ => ?_)
   | with_reducible refine e_ND (fun _ => ?_) (fun _ => ?_)
   | refine e_need (by first | omega | (constructor <;> omega) | rfl | (rw [i64_iff]; omega)) ?_
   | exact fun hE => g_fin (g_end [0, 1, 2] (kk rfl) (by decide) (by rw [hE]; first | exact leAV.refl _ | rfl | (repeat' first | exact leC.refl _ | exact trivial | rfl | constructor)) (by first | exact leHs.refl _ | (rw [hE]; exact leHs.refl _)))

def fr1F (v : EVal) (p : EProg) (tr : List (List (List EVal))) (wy : List (List Bool)) (s : EState) : Bool :=
 (!(FitsF v s))
noncomputable def ocLd : Orc where
 pure := fun f args => match f, args with
  | _, _ => none
 heap := fun f args H => match f, args with
  | 167, [.one (.c (.ptr b0 0 0 0)), a1] => (match cellsAs 40 H[b0]? with
   | some c0 => (match dA tVal a1, dCs tState c0 with
    | some x1, some y0_0 => hres [b0] H (.c (.bool (FitsF x1 y0_0))) [.cells 40 (Ty.enc tState y0_0)]
    | _, _ => none)
   | _ => none)
  | _, _ => none
def fr1_lv : LV := ⟨([]), []⟩
abbrev gJd1 (p : EProg) (tr : List (List (List EVal))) (wy : List (List Bool)) : List CV := [.ro tFn p.1, .ro tVal p.2.1, .ro .str p.2.2, .ptr 2 0 0 0, .ro (.slice (.slice tVal)) tr, .ro (.slice .bool) wy, .map 3]
noncomputable def fr1_T (v : EVal) (p : EProg) (tr : List (List (List EVal))) (wy : List (List Bool)) (s : EState) (n : Nat) (m : Int → Option Int) : Tree :=
 .callH 167 [.c (.ptr 2 0 0 0), .agg (Ty.enc tVal v)] [.cells 117 [.ptr 1 0 0 0], .cells 123 (gJd1 p tr wy), .cells 40 (Ty.enc tState s), .map 3 tI tI n m, .cells 48 (Ty.enc tVal v)] (.c (.bool (FitsF v s))) [.cells 117 [.ptr 1 0 0 0], .cells 123 (gJd1 p tr wy), .cells 40 (Ty.enc tState s), .map 3 tI tI n m, .cells 48 (Ty.enc tVal v)] [2] <|
 .ret (.c (.bool (!(FitsF v s)))) [.cells 117 [.ptr 1 0 0 0], .cells 123 (gJd1 p tr wy), .cells 40 (Ty.enc tState s), .map 3 tI tI n m, .cells 48 (Ty.enc tVal v)]
theorem fr1_fun (v : EVal) (p : EProg) (tr : List (List (List EVal))) (wy : List (List Bool)) (s : EState) (n : Nat) (m : Int → Option Int) : AFunH Tryz.prog 224 [.agg (tVal.enc v), .c (.ptr 0 0 0 0)] [.cells 117 [.ptr 1 0 0 0], .cells 123 (gJd1 p tr wy), .cells 40 (Ty.enc tState s), .map 3 tI tI n m] (.c (.bool (fr1F v p tr wy s))) [.cells 117 [.ptr 1 0 0 0], .cells 123 (gJd1 p tr wy), .cells 40 (Ty.enc tState s), .map 3 tI tI n m] (List.range 4) :=
 AFunH.of ocLd fr1_lv 3000 Tryz.func224 mixed rfl (by decide) (Nat.le_of_ble_eq_true rfl) rfl rfl (Nat.le_refl _) (fr1_T v p tr wy s n m) (by kernel_rfl) fun hF => by
  unfold fr1_T
  refine e_start (fr1F.eq_1 v p tr wy s) ?_
  repeat' first
   | refine e_callH (AFunH.frameB [2] (Fits_fun v s) rfl rfl rfl rfl rfl rfl rfl) ?_
   | exact fun hE => g_rh [0, 1, 2, 3] (kk rfl) (by decide) (by simp only [renA, ren1, renC, leAV, leA1, leC]; first | exact hE.symm | exact ⟨rfl, hE.symm⟩ | exact ⟨trivial, hE.symm⟩) rfl

noncomputable def ocLe : Orc where
 pure := fun f args => match f, args with
  | _, _ => none
 heap := fun f args H => match f, args with
  | 224, [a0, .one (.c (.ptr b0 0 0 0))] => (match cellsAs 117 H[b0]? with
   | some [.ptr b1 0 0 0] => (match cellsAs 123 H[b1]? with
   | some [c1_0_0, c1_0_1, c1_0_2, .ptr b2 0 0 0, c1_2, c1_3, .map b3] => (match cellsAs 40 H[b2]? with
   | some c2 => (match dA tVal a0, dCs tProg [c1_0_0, c1_0_1, c1_0_2], dC (.slice (.slice (.slice tVal))) c1_2, dC (.slice (.slice .bool)) c1_3, dCs tState c2, mapAs 3 tI tI H[b3]? with
    | some x0, some y1_0, some y1_2, some y1_3, some y2_0, some (n3, y3) => hres [b0, b1, b2, b3] H (.c (.bool (fr1F x0 y1_0 y1_2 y1_3 y2_0))) [.cells 117 [.ptr 1 0 0 0], .cells 123 [.ro tFn y1_0.1, .ro tVal y1_0.2.1, .ro .str y1_0.2.2, .ptr 2 0 0 0, .ro (.slice (.slice tVal)) y1_2, .ro (.slice .bool) y1_3, .map 3], .cells 40 (Ty.enc tState y2_0), .map 3 tI tI n3 y3]
    | _, _, _, _, _, _ => none)
   | _ => none)
   | _ => none)
   | _ => none)
  | _, _ => none
def jFr1I_lv : LV := ⟨(true :: true :: F4 (false :: true :: true :: F8 (F2 ([])))), []⟩
noncomputable def jFr1I_T (l : List EVal) (p : EProg) (tr : List (List (List EVal))) (wy : List (List Bool)) (s : EState) (n : Nat) (m : Int → Option Int) : Tree :=
 .stop (lp (bodyOf Tryz.f162) 0) (.c (.ro tVal l) :: .c (.fnc (.fn0 224) (.ptr 0 0 0 0)) :: J4 (.junk :: .c (.int .i64 (l.length : Int)) :: .c (.int .i64 0) :: J8 (J2 ([])))) [.cells 117 [.ptr 1 0 0 0], .cells 123 (gJd1 p tr wy), .cells 40 (Ty.enc tState s), .map 3 tI tI n m]
noncomputable def jFr1I_l0_R (l : List EVal) (p : EProg) (tr : List (List (List EVal))) (wy : List (List Bool)) (s : EState) (n : Nat) (m : Int → Option Int) (i : Nat) : Tree :=
 .ite (decide (((i : Nat) : Int) < (l.length : Int)))
 (.need ((0 : Int) ≤ ((i : Nat) : Int) ∧ (((i : Nat) : Int) : Int) < (l.length : Int)) <|
  .need (i < l.length) <|
  .callH 224 [.agg (Ty.enc tVal (l.getD i tVal.dflt)), .c (.ptr 0 0 0 0)] [.cells 117 [.ptr 1 0 0 0], .cells 123 (gJd1 p tr wy), .cells 40 (Ty.enc tState s), .map 3 tI tI n m] (.c (.bool (fr1F (l.getD i tVal.dflt) p tr wy s))) [.cells 117 [.ptr 1 0 0 0], .cells 123 (gJd1 p tr wy), .cells 40 (Ty.enc tState s), .map 3 tI tI n m] [0, 1, 2, 3] <|
  .ite (fr1F (l.getD i tVal.dflt) p tr wy s)
  (.ret (.c (.int .i64 ((i : Nat) : Int))) [.cells 117 [.ptr 1 0 0 0], .cells 123 (gJd1 p tr wy), .cells 40 (Ty.enc tState s), .map 3 tI tI n m])
  (.need (inR .i64 (((i : Nat) : Int) + 1)) <|
  .stop (lp (bodyOf Tryz.f162) 0) (.c (.ro tVal l) :: .c (.fnc (.fn0 224) (.ptr 0 0 0 0)) :: J4 (.junk :: .c (.int .i64 (l.length : Int)) :: .c (.int .i64 (((i : Nat) : Int) + 1)) :: J8 (J2 ([])))) [.cells 117 [.ptr 1 0 0 0], .cells 123 (gJd1 p tr wy), .cells 40 (Ty.enc tState s), .map 3 tI tI n m]))
 (.ret (.c (.int .i64 (-1))) [.cells 117 [.ptr 1 0 0 0], .cells 123 (gJd1 p tr wy), .cells 40 (Ty.enc tState s), .map 3 tI tI n m])
theorem jFr1I_l0 (l : List EVal) (p : EProg) (tr : List (List (List EVal))) (wy : List (List Bool)) (s : EState) (n : Nat) (m : Int → Option Int) (i : Nat) (hl : l.length ≤ 9223372036854775807) : RunN 4 Tryz.prog 162 (retH 4 (.c (.int .i64 (fstG (fun v => fr1F v p tr wy s) i (l.drop i)))) [.cells 117 [.ptr 1 0 0 0], .cells 123 (gJd1 p tr wy), .cells 40 (Ty.enc tState s), .map 3 tI tI n m]) (lp (bodyOf Tryz.f162) 0) (.c (.ro tVal l) :: .c (.fnc (.fn0 224) (.ptr 0 0 0 0)) :: J4 (.junk :: .c (.int .i64 (l.length : Int)) :: .c (.int .i64 ((i : Nat) : Int)) :: J8 (J2 ([])))) [.cells 117 [.ptr 1 0 0 0], .cells 123 (gJd1 p tr wy), .cells 40 (Ty.enc tState s), .map 3 tI tI n m] :=
 Run.roundA ocLe jFr1I_lv 3000 Tryz.func162 mixed (jFr1I_l0_R l p tr wy s n m i) (by kernel_rfl) (by
  unfold jFr1I_l0_R
  repeat' first
  | with_reducible refine g_iteD (fun h => ?_) (fun h => ?_)
  | with_reducible refine g_ite (fun h => ?_) (fun h => ?_)
  | refine g_need (by first | (omega) | exact i64_iff.2 (by omega)) ?_
  | refine g_callH (AFunH.frameB [0, 1, 2, 3] (fr1_fun (l.getD i tVal.dflt) p tr wy s n m) rfl rfl rfl rfl rfl rfl rfl) ?_
  | (exact g_rh [0, 1, 2, 3] (kk rfl) (by decide) (by simp only [renA, ren1, renC, leAV, leA1, leC]; refine ⟨trivial, ?_⟩; first | (rw [dropCons (α := EVal) (Ty.dflt tVal) (by omega)]; simp only [fstG, *, if_true, decide_true]; done) | (rw [List.drop_eq_nil_of_le (by omega)]; rfl)) rfl)
  | (refine g_stop (RunN.keep [0, 1, 2, 3] (true :: true :: F4 (false :: true :: true :: F8 (F2 ([])))) (kk rfl) (by decide) rfl rfl ?_); have := jFr1I_l0 l p tr wy s n m (i + 1) hl; rw [dropCons (α := EVal) (Ty.dflt tVal) (by omega)]; simp only [fstG, *, if_false, Bool.false_eq_true, decide_false]; exact this)
  )
 termination_by l.length - i
 decreasing_by all_goals omega
theorem jFr1I_fun (l : List EVal) (p : EProg) (tr : List (List (List EVal))) (wy : List (List Bool)) (s : EState) (n : Nat) (m : Int → Option Int) : AFunH Tryz.prog 162 [.c (.ro tVal l), .c (.fnc (.fn0 224) (.ptr 0 0 0 0))] [.cells 117 [.ptr 1 0 0 0], .cells 123 (gJd1 p tr wy), .cells 40 (Ty.enc tState s), .map 3 tI tI n m] (.c (.int .i64 (fstG (fun v => fr1F v p tr wy s) 0 l))) [.cells 117 [.ptr 1 0 0 0], .cells 123 (gJd1 p tr wy), .cells 40 (Ty.enc tState s), .map 3 tI tI n m] (List.range 4) :=
 AFunH.of ocLe jFr1I_lv 3000 Tryz.func162 mixed rfl (by decide) (Nat.le_of_ble_eq_true rfl) rfl rfl (Nat.le_refl _) (jFr1I_T l p tr wy s n m) (by kernel_rfl) fun hF => by
  have hl : l.length ≤ 9223372036854775807 := (hF.ro (i := 0) rfl).1
  unfold jFr1I_T
  refine g_stop (RunN.keep [0, 1, 2, 3] (true :: true :: F4 (false :: true :: true :: F8 (F2 ([])))) (kk rfl) (by decide) rfl rfl ?_)
  exact jFr1I_l0 l p tr wy s n m 0 hl

noncomputable def ocLec : Orc where
 pure := fun f args => match f, args with
  | _, _ => none
 heap := fun f args H => match f, args with
  | 162, [a0, .one (.c (.fnc (.fn0 224) (.ptr b0 0 0 0)))] => (match cellsAs 117 H[b0]? with
   | some [.ptr b1 0 0 0] => (match cellsAs 123 H[b1]? with
   | some [c1_0_0, c1_0_1, c1_0_2, .ptr b2 0 0 0, c1_2, c1_3, .map b3] => (match cellsAs 40 H[b2]? with
   | some c2 => (match dA (.slice tVal) a0, dCs tProg [c1_0_0, c1_0_1, c1_0_2], dC (.slice (.slice (.slice tVal))) c1_2, dC (.slice (.slice .bool)) c1_3, dCs tState c2, mapAs 3 tI tI H[b3]? with
    | some x0, some y1_0, some y1_2, some y1_3, some y2_0, some (n3, y3) => hres [b0, b1, b2, b3] H (.c (.int .i64 (fstG (fun v => fr1F v y1_0 y1_2 y1_3 y2_0) 0 x0))) [.cells 117 [.ptr 1 0 0 0], .cells 123 [.ro tFn y1_0.1, .ro tVal y1_0.2.1, .ro .str y1_0.2.2, .ptr 2 0 0 0, .ro (.slice (.slice tVal)) y1_2, .ro (.slice .bool) y1_3, .map 3], .cells 40 (Ty.enc tState y2_0), .map 3 tI tI n3 y3]
    | _, _, _, _, _, _ => none)
   | _ => none)
   | _ => none)
   | _ => none)
  | _, _ => none
def jFr1C_lv : LV := ⟨([]), []⟩
noncomputable def jFr1C_T (l : List EVal) (p : EProg) (tr : List (List (List EVal))) (wy : List (List Bool)) (s : EState) (n : Nat) (m : Int → Option Int) : Tree :=
 .callH 162 [.c (.ro tVal l), .c (.fnc (.fn0 224) (.ptr 0 0 0 0))] [.cells 117 [.ptr 1 0 0 0], .cells 123 (gJd1 p tr wy), .cells 40 (Ty.enc tState s), .map 3 tI tI n m] (.c (.int .i64 (fstG (fun v => fr1F v p tr wy s) 0 l))) [.cells 117 [.ptr 1 0 0 0], .cells 123 (gJd1 p tr wy), .cells 40 (Ty.enc tState s), .map 3 tI tI n m] [0, 1, 2, 3] <|
 .ret (.c (.bool (decide ((0 : Int) ≤ fstG (fun v => fr1F v p tr wy s) 0 l)))) [.cells 117 [.ptr 1 0 0 0], .cells 123 (gJd1 p tr wy), .cells 40 (Ty.enc tState s), .map 3 tI tI n m]
theorem jFr1C_fun (l : List EVal) (p : EProg) (tr : List (List (List EVal))) (wy : List (List Bool)) (s : EState) (n : Nat) (m : Int → Option Int) : AFunH Tryz.prog 108 [.c (.ro tVal l), .c (.fnc (.fn0 224) (.ptr 0 0 0 0))] [.cells 117 [.ptr 1 0 0 0], .cells 123 (gJd1 p tr wy), .cells 40 (Ty.enc tState s), .map 3 tI tI n m] (.c (.bool (List.any l (fun v => fr1F v p tr wy s)))) [.cells 117 [.ptr 1 0 0 0], .cells 123 (gJd1 p tr wy), .cells 40 (Ty.enc tState s), .map 3 tI tI n m] (List.range 4) :=
 AFunH.of ocLec jFr1C_lv 3000 Tryz.func108 mixed rfl (by decide) (Nat.le_of_ble_eq_true rfl) rfl rfl (Nat.le_refl _) (jFr1C_T l p tr wy s n m) (by kernel_rfl) fun hF => by
  unfold jFr1C_T
  refine g_callH (AFunH.frameB [0, 1, 2, 3] (jFr1I_fun l p tr wy s n m) rfl rfl rfl rfl rfl rfl rfl) ?_
  exact g_rh [0, 1, 2, 3] (kk rfl) (by decide) (by simp only [renA, ren1, renC, leAV, leA1, leC]; exact fstG_ge) rfl

theorem pfns_le {args : List AV} {H : List AB} {b : Nat} {e : TypeId} {cs : List CV} {p : EProg} (h : FactsH args H) (hb : H[b]? = some (.cells e (.ro tFn p.1 :: cs))) : Ty.ok (.slice tFn) p.1 := by
 obtain ⟨σ, w, v, h⟩ := h.cell hb (i := 0) rfl
 exact rd_okT (.slice tFn) h
def frameF (f : EFrame) (p : EProg) (tr : List (List (List EVal))) (wy : List (List Bool)) (s : EState) : Bool :=
 if (swithinF f.1 0 ((p.1.length : Int) - 1)) = true then
  if (lcellF f.2.2.2.2.1 4 p tr wy s).2 = true then
   if (lcellF f.2.2.2.2.1 4 p tr wy s).1.2.1 = f.1 then
    if (f.2.2.2.2.2.1.length : Int) = (p.1.getD (Int.toNat f.1) tFn.dflt).2.1 then
     if (swithinF f.2.1 0 (((p.1.getD (Int.toNat f.1) tFn.dflt).2.2.2.2.length : Int) - 1)) = true then
      if ((wy.getD (Int.toNat f.1) ((.slice .bool) : Ty).dflt).getD (Int.toNat f.2.1) (.bool : Ty).dflt) = true then
       if f.2.2.2.2.2.2 = ((tr.getD (Int.toNat f.1) ((.slice (.slice tVal)) : Ty).dflt).getD (Int.toNat f.2.1) ((.slice tVal) : Ty).dflt) then
        (!(List.any f.2.2.2.2.2.1 (fun v => fr1F v p tr wy s)))
       else
        false
      else
       false
     else
      false
    else
     false
   else
    false
  else
   false
 else
  false
noncomputable def ocLf : Orc where
 pure := fun f args => match f, args with
  | 94, [a0, a1] => match dA (.slice tVal) a0, dA (.slice tVal) a1 with
   | some x0, some x1 => some (.c (.bool (decide (x0 = x1))))
   | _, _ => none
  | 117, [a0, a1, a2] => match dA tI a0, dA tI a1, dA tI a2 with
   | some x0, some x1, some x2 => some (.c (.bool (swithinF x0 x1 x2)))
   | _, _, _ => none
  | _, _ => none
 heap := fun f args H => match f, args with
  | 108, [a0, .one (.c (.fnc (.fn0 224) (.ptr b0 0 0 0)))] => (match cellsAs 117 H[b0]? with
   | some [.ptr b1 0 0 0] => (match cellsAs 123 H[b1]? with
   | some [c1_0_0, c1_0_1, c1_0_2, .ptr b2 0 0 0, c1_2, c1_3, .map b3] => (match cellsAs 40 H[b2]? with
   | some c2 => (match dA (.slice tVal) a0, dCs tProg [c1_0_0, c1_0_1, c1_0_2], dC (.slice (.slice (.slice tVal))) c1_2, dC (.slice (.slice .bool)) c1_3, dCs tState c2, mapAs 3 tI tI H[b3]? with
    | some x0, some y1_0, some y1_2, some y1_3, some y2_0, some (n3, y3) => hres [b0, b1, b2, b3] H (.c (.bool (List.any x0 (fun v => fr1F v y1_0 y1_2 y1_3 y2_0)))) [.cells 117 [.ptr 1 0 0 0], .cells 123 [.ro tFn y1_0.1, .ro tVal y1_0.2.1, .ro .str y1_0.2.2, .ptr 2 0 0 0, .ro (.slice (.slice tVal)) y1_2, .ro (.slice .bool) y1_3, .map 3], .cells 40 (Ty.enc tState y2_0), .map 3 tI tI n3 y3]
    | _, _, _, _, _, _ => none)
   | _ => none)
   | _ => none)
   | _ => none)
  | 168, [.one (.c (.ptr b0 0 0 0)), a1, a2] => (match cellsAs 123 H[b0]? with
   | some [c0_0_0, c0_0_1, c0_0_2, .ptr b1 0 0 0, c0_2, c0_3, .map b2] => (match cellsAs 40 H[b1]? with
   | some c1 => (match dA tVal a1, dA tI a2, dCs tProg [c0_0_0, c0_0_1, c0_0_2], dC (.slice (.slice (.slice tVal))) c0_2, dC (.slice (.slice .bool)) c0_3, dCs tState c1, mapAs 3 tI tI H[b2]? with
    | some x1, some x2, some y0_0, some y0_2, some y0_3, some y1_0, some (n2, y2) => hres [b0, b1, b2] H (.tup [.agg (Ty.enc tCell ((lcellF x1 x2 y0_0 y0_2 y0_3 y1_0).1)), .c (.bool ((lcellF x1 x2 y0_0 y0_2 y0_3 y1_0).2))]) [.cells 123 [.ro tFn y0_0.1, .ro tVal y0_0.2.1, .ro .str y0_0.2.2, .ptr 1 0 0 0, .ro (.slice (.slice tVal)) y0_2, .ro (.slice .bool) y0_3, .map 2], .cells 40 (Ty.enc tState y1_0), .map 3 tI tI n2 y2]
    | _, _, _, _, _, _, _ => none)
   | _ => none)
   | _ => none)
  | _, _ => none
def frame_lv : LV := ⟨([]), []⟩
noncomputable def frame_T (f : EFrame) (p : EProg) (tr : List (List (List EVal))) (wy : List (List Bool)) (s : EState) (n : Nat) (m : Int → Option Int) : Tree :=
 .need (inR .i64 ((p.1.length : Int) - 1)) <|
 .call 117 [.c (.int .i64 f.1), .c (.int .i64 0), .c (.int .i64 ((p.1.length : Int) - 1))] false (.c (.bool (swithinF f.1 0 ((p.1.length : Int) - 1)))) <|
 .ite ((!(swithinF f.1 0 ((p.1.length : Int) - 1))))
 (.ret (.c (.lit false)) [.cells 123 (gJd0 p tr wy), .cells 40 (Ty.enc tState s), .map 3 tI tI n m, .cells 117 [.ptr 0 0 0 0], .cells 61 (Ty.enc tFrame f)])
 (.need ((0 : Int) ≤ f.1 ∧ (f.1 : Int) < (p.1.length : Int)) <|
  .need ((Int.toNat f.1) < p.1.length) <|
  .callH 168 [.c (.ptr 0 0 0 0), .agg (Ty.enc tVal f.2.2.2.2.1), .c (.int .i64 4)] [.cells 123 (gJd0 p tr wy), .cells 40 (Ty.enc tState s), .map 3 tI tI n m, .cells 117 [.ptr 0 0 0 0], .cells 61 (Ty.enc tFrame f), .cells 104 (Ty.enc tFn (p.1.getD (Int.toNat f.1) tFn.dflt))] (.tup [.agg (Ty.enc tCell (lcellF f.2.2.2.2.1 4 p tr wy s).1), .c (.bool (lcellF f.2.2.2.2.1 4 p tr wy s).2)]) [.cells 123 (gJd0 p tr wy), .cells 40 (Ty.enc tState s), .map 3 tI tI n m, .cells 117 [.ptr 0 0 0 0], .cells 61 (Ty.enc tFrame f), .cells 104 (Ty.enc tFn (p.1.getD (Int.toNat f.1) tFn.dflt))] [0, 1, 2] <|
  .ite ((!(lcellF f.2.2.2.2.1 4 p tr wy s).2))
  (.ret (.c (.lit false)) [.cells 123 (gJd0 p tr wy), .cells 40 (Ty.enc tState s), .map 3 tI tI n m, .cells 117 [.ptr 0 0 0 0], .cells 61 (Ty.enc tFrame f), .cells 104 (Ty.enc tFn (p.1.getD (Int.toNat f.1) tFn.dflt)), .cells 55 (Ty.enc tCell (lcellF f.2.2.2.2.1 4 p tr wy s).1)])
  (.ite ((!(decide ((lcellF f.2.2.2.2.1 4 p tr wy s).1.2.1 = f.1))))
  (.ret (.c (.lit false)) [.cells 123 (gJd0 p tr wy), .cells 40 (Ty.enc tState s), .map 3 tI tI n m, .cells 117 [.ptr 0 0 0 0], .cells 61 (Ty.enc tFrame f), .cells 104 (Ty.enc tFn (p.1.getD (Int.toNat f.1) tFn.dflt)), .cells 55 (Ty.enc tCell (lcellF f.2.2.2.2.1 4 p tr wy s).1)])
  (.ite ((!(decide ((f.2.2.2.2.2.1.length : Int) = (p.1.getD (Int.toNat f.1) tFn.dflt).2.1))))
   (.ret (.c (.lit false)) [.cells 123 (gJd0 p tr wy), .cells 40 (Ty.enc tState s), .map 3 tI tI n m, .cells 117 [.ptr 0 0 0 0], .cells 61 (Ty.enc tFrame f), .cells 104 (Ty.enc tFn (p.1.getD (Int.toNat f.1) tFn.dflt)), .cells 55 (Ty.enc tCell (lcellF f.2.2.2.2.1 4 p tr wy s).1)])
   (.need (inR .i64 (((p.1.getD (Int.toNat f.1) tFn.dflt).2.2.2.2.length : Int) - 1)) <|
   .call 117 [.c (.int .i64 f.2.1), .c (.int .i64 0), .c (.int .i64 (((p.1.getD (Int.toNat f.1) tFn.dflt).2.2.2.2.length : Int) - 1))] false (.c (.bool (swithinF f.2.1 0 (((p.1.getD (Int.toNat f.1) tFn.dflt).2.2.2.2.length : Int) - 1)))) <|
   .ite ((!(swithinF f.2.1 0 (((p.1.getD (Int.toNat f.1) tFn.dflt).2.2.2.2.length : Int) - 1))))
   (.ret (.c (.lit false)) [.cells 123 (gJd0 p tr wy), .cells 40 (Ty.enc tState s), .map 3 tI tI n m, .cells 117 [.ptr 0 0 0 0], .cells 61 (Ty.enc tFrame f), .cells 104 (Ty.enc tFn (p.1.getD (Int.toNat f.1) tFn.dflt)), .cells 55 (Ty.enc tCell (lcellF f.2.2.2.2.1 4 p tr wy s).1)])
   (.need ((0 : Int) ≤ f.1 ∧ (f.1 : Int) < (wy.length : Int)) <|
    .need ((Int.toNat f.1) < wy.length) <|
    .need ((0 : Int) ≤ f.2.1 ∧ (f.2.1 : Int) < ((wy.getD (Int.toNat f.1) ((.slice .bool) : Ty).dflt).length : Int)) <|
    .need ((Int.toNat f.2.1) < (wy.getD (Int.toNat f.1) ((.slice .bool) : Ty).dflt).length) <|
    .ite ((!((wy.getD (Int.toNat f.1) ((.slice .bool) : Ty).dflt).getD (Int.toNat f.2.1) (.bool : Ty).dflt)))
    (.ret (.c (.lit false)) [.cells 123 (gJd0 p tr wy), .cells 40 (Ty.enc tState s), .map 3 tI tI n m, .cells 117 [.ptr 0 0 0 0], .cells 61 (Ty.enc tFrame f), .cells 104 (Ty.enc tFn (p.1.getD (Int.toNat f.1) tFn.dflt)), .cells 55 (Ty.enc tCell (lcellF f.2.2.2.2.1 4 p tr wy s).1)])
    (.need ((0 : Int) ≤ f.1 ∧ (f.1 : Int) < (tr.length : Int)) <|
    .need ((Int.toNat f.1) < tr.length) <|
    .need ((0 : Int) ≤ f.2.1 ∧ (f.2.1 : Int) < ((tr.getD (Int.toNat f.1) ((.slice (.slice tVal)) : Ty).dflt).length : Int)) <|
    .need ((Int.toNat f.2.1) < (tr.getD (Int.toNat f.1) ((.slice (.slice tVal)) : Ty).dflt).length) <|
    .call 94 [.c (.ro tVal f.2.2.2.2.2.2), .c (.ro tVal ((tr.getD (Int.toNat f.1) ((.slice (.slice tVal)) : Ty).dflt).getD (Int.toNat f.2.1) ((.slice tVal) : Ty).dflt))] false (.c (.bool (decide (f.2.2.2.2.2.2 = ((tr.getD (Int.toNat f.1) ((.slice (.slice tVal)) : Ty).dflt).getD (Int.toNat f.2.1) ((.slice tVal) : Ty).dflt))))) <|
    .ite (decide (f.2.2.2.2.2.2 = ((tr.getD (Int.toNat f.1) ((.slice (.slice tVal)) : Ty).dflt).getD (Int.toNat f.2.1) ((.slice tVal) : Ty).dflt)))
    (.callH 108 [.c (.ro tVal f.2.2.2.2.2.1), .c (.fnc (.fn0 224) (.ptr 3 0 0 0))] [.cells 123 (gJd0 p tr wy), .cells 40 (Ty.enc tState s), .map 3 tI tI n m, .cells 117 [.ptr 0 0 0 0], .cells 61 (Ty.enc tFrame f), .cells 104 (Ty.enc tFn (p.1.getD (Int.toNat f.1) tFn.dflt)), .cells 55 (Ty.enc tCell (lcellF f.2.2.2.2.1 4 p tr wy s).1)] (.c (.bool (List.any f.2.2.2.2.2.1 (fun v => fr1F v p tr wy s)))) [.cells 123 (gJd0 p tr wy), .cells 40 (Ty.enc tState s), .map 3 tI tI n m, .cells 117 [.ptr 0 0 0 0], .cells 61 (Ty.enc tFrame f), .cells 104 (Ty.enc tFn (p.1.getD (Int.toNat f.1) tFn.dflt)), .cells 55 (Ty.enc tCell (lcellF f.2.2.2.2.1 4 p tr wy s).1)] [3, 0, 1, 2] <|
     .ret (.c (.bool (!(List.any f.2.2.2.2.2.1 (fun v => fr1F v p tr wy s))))) [.cells 123 (gJd0 p tr wy), .cells 40 (Ty.enc tState s), .map 3 tI tI n m, .cells 117 [.ptr 0 0 0 0], .cells 61 (Ty.enc tFrame f), .cells 104 (Ty.enc tFn (p.1.getD (Int.toNat f.1) tFn.dflt)), .cells 55 (Ty.enc tCell (lcellF f.2.2.2.2.1 4 p tr wy s).1)])
    (.ret (.c (.lit false)) [.cells 123 (gJd0 p tr wy), .cells 40 (Ty.enc tState s), .map 3 tI tI n m, .cells 117 [.ptr 0 0 0 0], .cells 61 (Ty.enc tFrame f), .cells 104 (Ty.enc tFn (p.1.getD (Int.toNat f.1) tFn.dflt)), .cells 55 (Ty.enc tCell (lcellF f.2.2.2.2.1 4 p tr wy s).1)])))))))
theorem frame_fun (f : EFrame) (p : EProg) (tr : List (List (List EVal))) (wy : List (List Bool)) (s : EState) (n : Nat) (m : Int → Option Int) (hk : lookOk p tr wy) : AFunH Tryz.prog 204 [.c (.ptr 0 0 0 0), .agg (tFrame.enc f)] [.cells 123 (gJd0 p tr wy), .cells 40 (Ty.enc tState s), .map 3 tI tI n m] (.c (.bool (frameF f p tr wy s))) [.cells 123 (gJd0 p tr wy), .cells 40 (Ty.enc tState s), .map 3 tI tI n m] (List.range 3) :=
 AFunH.of ocLf frame_lv 3000 Tryz.func204 mixed rfl (by decide) (Nat.le_of_ble_eq_true rfl) rfl rfl (Nat.le_refl _) (frame_T f p tr wy s n m) (by kernel_rfl) fun hF => by
  have q1 := pfns_le (b := 0) hF rfl
  have q2 := q1.1
  have q3 := fun k (hk : k < p.1.length) => (q1.2 _ (getD_mem (α := EFn) (Ty.dflt tFn) hk)).2.2.2.2.1
  unfold frame_T
  refine e_start (frameF.eq_1 f p tr wy s) ?_
  repeat' first
   | with_reducible refine e_D (fun _ => ?_) (fun _ => ?_)
   | with_reducible refine e_NB (fun _ => ?_) (fun _ => ?_)
   | with_reducible refine e_ND (fun _ => ?_) (fun _ => ?_)
   | refine e_need (by first | omega | (constructor <;> omega) | rfl | (rw [i64_iff]; omega) | (simp only [swithin_iff] at *; have hz := hk.2.2 f.1.toNat (by omega); have hz1 := hk.1; have hz2 := hk.2.1; have hz3 := q3 f.1.toNat (by omega); first | omega | (constructor <;> omega) | (rw [i64_iff]; omega))) ?_
   | refine e_call (swithin_fun f.1 0 ((p.1.length : Int) - 1)) (fun h => nomatch h) ?_
   | refine e_callH (AFunH.frameB [0, 1, 2] (lcell_fun f.2.2.2.2.1 4 p tr wy s n m) rfl rfl rfl rfl rfl rfl rfl) ?_
   | refine e_call (swithin_fun f.2.1 0 (((p.1.getD (Int.toNat f.1) tFn.dflt).2.2.2.2.length : Int) - 1)) (fun h => nomatch h) ?_
   | refine e_call (qqTry_fun f.2.2.2.2.2.2 ((tr.getD (Int.toNat f.1) ((.slice (.slice tVal)) : Ty).dflt).getD (Int.toNat f.2.1) ((.slice tVal) : Ty).dflt)) (fun h => nomatch h) ?_
   | refine e_callH (AFunH.frameB [3, 0, 1, 2] (jFr1C_fun f.2.2.2.2.2.1 p tr wy s n m) rfl rfl rfl rfl rfl rfl rfl) ?_
   | exact fun hE => g_rh [0, 1, 2] (kk rfl) (by decide) (by simp only [renA, ren1, renC, leAV, leA1, leC]; first | exact hE.symm | exact ⟨rfl, hE.symm⟩ | exact ⟨trivial, hE.symm⟩) rfl

theorem frame_parts {f : EFrame} {p : EProg} {tr : List (List (List EVal))} {wy : List (List Bool)} {s : EState} (h : frameF f p tr wy s = true) : 0 ≤ f.1 ∧ f.1 < (p.1.length : Int) ∧ 0 ≤ f.2.1 ∧ f.2.1 < ((p.1.getD (Int.toNat f.1) tFn.dflt).2.2.2.2.length : Int) ∧ (f.2.2.2.2.2.1.length : Int) = (p.1.getD (Int.toNat f.1) tFn.dflt).2.1 := by
 unfold frameF at h
 split at h
 ·rename_i h1
  split at h
  ·split at h
   ·split at h
    ·rename_i h4
     split at h
     ·rename_i h5
      rw [swithin_iff] at h1 h5
      exact ⟨by omega, by omega, by omega, by omega, h4⟩
     ·cases h
    ·cases h
   ·cases h
  ·cases h
 ·cases h
def savedF (f : EFrame) (p : EProg) (tr : List (List (List EVal))) (wy : List (List Bool)) (s : EState) : Bool :=
 if (frameF f p tr wy s) = true then
  if f.2.2.1 = (-1) then
   if f.2.2.2.1 = (-1) then
    if (p.1.getD (Int.toNat f.1) tFn.dflt).2.2.1 = true then
     if f.2.1 = 0 then
      true
     else
      decide (((p.1.getD (Int.toNat f.1) tFn.dflt).2.2.2.2.getD (Int.toNat (f.2.1 - 1)) tOrd.dflt).1 = 32)
    else
     false
   else
    false
  else
   false
 else
  false
noncomputable def ocLg : Orc where
 pure := fun f args => match f, args with
  | _, _ => none
 heap := fun f args H => match f, args with
  | 204, [.one (.c (.ptr b0 0 0 0)), a1] => (match cellsAs 123 H[b0]? with
   | some [c0_0_0, c0_0_1, c0_0_2, .ptr b1 0 0 0, c0_2, c0_3, .map b2] => (match cellsAs 40 H[b1]? with
   | some c1 => (match dA tFrame a1, dCs tProg [c0_0_0, c0_0_1, c0_0_2], dC (.slice (.slice (.slice tVal))) c0_2, dC (.slice (.slice .bool)) c0_3, dCs tState c1, mapAs 3 tI tI H[b2]? with
    | some x1, some y0_0, some y0_2, some y0_3, some y1_0, some (n2, y2) => hres [b0, b1, b2] H (.c (.bool (frameF x1 y0_0 y0_2 y0_3 y1_0))) [.cells 123 [.ro tFn y0_0.1, .ro tVal y0_0.2.1, .ro .str y0_0.2.2, .ptr 1 0 0 0, .ro (.slice (.slice tVal)) y0_2, .ro (.slice .bool) y0_3, .map 2], .cells 40 (Ty.enc tState y1_0), .map 3 tI tI n2 y2]
    | _, _, _, _, _, _ => none)
   | _ => none)
   | _ => none)
  | _, _ => none
def saved_lv : LV := ⟨([]), []⟩
noncomputable def saved_T (f : EFrame) (p : EProg) (tr : List (List (List EVal))) (wy : List (List Bool)) (s : EState) (n : Nat) (m : Int → Option Int) : Tree :=
 .callH 204 [.c (.ptr 0 0 0 0), .agg (Ty.enc tFrame f)] [.cells 123 (gJd0 p tr wy), .cells 40 (Ty.enc tState s), .map 3 tI tI n m, .cells 61 (Ty.enc tFrame f)] (.c (.bool (frameF f p tr wy s))) [.cells 123 (gJd0 p tr wy), .cells 40 (Ty.enc tState s), .map 3 tI tI n m, .cells 61 (Ty.enc tFrame f)] [0, 1, 2] <|
 .ite ((!(frameF f p tr wy s)))
 (.ret (.c (.lit false)) [.cells 123 (gJd0 p tr wy), .cells 40 (Ty.enc tState s), .map 3 tI tI n m, .cells 61 (Ty.enc tFrame f)])
 (.ite ((!(decide (f.2.2.1 = (-1)))))
  (.ret (.c (.lit false)) [.cells 123 (gJd0 p tr wy), .cells 40 (Ty.enc tState s), .map 3 tI tI n m, .cells 61 (Ty.enc tFrame f)])
  (.ite ((!(decide (f.2.2.2.1 = (-1)))))
  (.ret (.c (.lit false)) [.cells 123 (gJd0 p tr wy), .cells 40 (Ty.enc tState s), .map 3 tI tI n m, .cells 61 (Ty.enc tFrame f)])
  (.need ((0 : Int) ≤ f.1 ∧ (f.1 : Int) < (p.1.length : Int)) <|
   .need ((Int.toNat f.1) < p.1.length) <|
   .ite ((!(p.1.getD (Int.toNat f.1) tFn.dflt).2.2.1))
   (.ret (.c (.lit false)) [.cells 123 (gJd0 p tr wy), .cells 40 (Ty.enc tState s), .map 3 tI tI n m, .cells 61 (Ty.enc tFrame f)])
   (.ite (decide (f.2.1 = 0))
   (.ret (.c (.lit true)) [.cells 123 (gJd0 p tr wy), .cells 40 (Ty.enc tState s), .map 3 tI tI n m, .cells 61 (Ty.enc tFrame f)])
   (.need ((0 : Int) ≤ f.1 ∧ (f.1 : Int) < (p.1.length : Int)) <|
    .need ((Int.toNat f.1) < p.1.length) <|
    .need (inR .i64 (f.2.1 - 1)) <|
    .need ((0 : Int) ≤ (f.2.1 - 1) ∧ ((f.2.1 - 1) : Int) < ((p.1.getD (Int.toNat f.1) tFn.dflt).2.2.2.2.length : Int)) <|
    .need ((Int.toNat (f.2.1 - 1)) < (p.1.getD (Int.toNat f.1) tFn.dflt).2.2.2.2.length) <|
    .ret (.c (.bool (decide (((p.1.getD (Int.toNat f.1) tFn.dflt).2.2.2.2.getD (Int.toNat (f.2.1 - 1)) tOrd.dflt).1 = 32)))) [.cells 123 (gJd0 p tr wy), .cells 40 (Ty.enc tState s), .map 3 tI tI n m, .cells 61 (Ty.enc tFrame f)])))))
theorem saved_fun (f : EFrame) (p : EProg) (tr : List (List (List EVal))) (wy : List (List Bool)) (s : EState) (n : Nat) (m : Int → Option Int) (hk : lookOk p tr wy) : AFunH Tryz.prog 166 [.c (.ptr 0 0 0 0), .agg (tFrame.enc f)] [.cells 123 (gJd0 p tr wy), .cells 40 (Ty.enc tState s), .map 3 tI tI n m] (.c (.bool (savedF f p tr wy s))) [.cells 123 (gJd0 p tr wy), .cells 40 (Ty.enc tState s), .map 3 tI tI n m] (List.range 3) :=
 AFunH.of ocLg saved_lv 3000 Tryz.func166 mixed rfl (by decide) (Nat.le_of_ble_eq_true rfl) rfl rfl (Nat.le_refl _) (saved_T f p tr wy s n m) (by kernel_rfl) fun hF => by
  have q1 := pfns_le (b := 0) hF rfl
  have q2 := q1.1
  have q3 := fun k (hk : k < p.1.length) => (q1.2 _ (getD_mem (α := EFn) (Ty.dflt tFn) hk)).2.2.2.2.1
  unfold saved_T
  refine e_start (savedF.eq_1 f p tr wy s) ?_
  repeat' first
   | with_reducible refine e_D (fun _ => ?_) (fun _ => ?_)
   | with_reducible refine e_NB (fun _ => ?_) (fun _ => ?_)
   | with_reducible refine e_ND (fun _ => ?_) (fun _ => ?_)
   | refine e_need (by first | omega | (constructor <;> omega) | rfl | (rw [i64_iff]; omega) | (have hz := frame_parts (by assumption); have hz3 := q3 f.1.toNat (by omega); first | omega | (constructor <;> omega) | (rw [i64_iff]; omega))) ?_
   | refine e_callH (AFunH.frameB [0, 1, 2] (frame_fun f p tr wy s n m hk) rfl rfl rfl rfl rfl rfl rfl) ?_
   | exact fun hE => g_rh [0, 1, 2] (kk rfl) (by decide) (by simp only [renA, ren1, renC, leAV, leA1, leC]; first | exact hE.symm | exact ⟨rfl, hE.symm⟩ | exact ⟨trivial, hE.symm⟩) rfl

def heapF (c : ECell) (p : EProg) (tr : List (List (List EVal))) (wy : List (List Bool)) (s : EState) : Bool :=
 if c.1 = 4 then
  if c.2.1 < (p.1.length : Int) then
   decide ((c.2.2.1.length : Int) = ((p.1.getD (Int.toNat c.2.1) tFn.dflt).2.2.2.1.length : Int))
  else
   false
 else
  if c.1 = 5 then
   if c.2.1 = 0 then
    savedF (c.2.2.2.getD 0 tFrame.dflt) p tr wy s
   else
    true
  else
   true
noncomputable def ocLh : Orc where
 pure := fun f args => match f, args with
  | _, _ => none
 heap := fun f args H => match f, args with
  | 166, [.one (.c (.ptr b0 0 0 0)), a1] => (match cellsAs 123 H[b0]? with
   | some [c0_0_0, c0_0_1, c0_0_2, .ptr b1 0 0 0, c0_2, c0_3, .map b2] => (match cellsAs 40 H[b1]? with
   | some c1 => (match dA tFrame a1, dCs tProg [c0_0_0, c0_0_1, c0_0_2], dC (.slice (.slice (.slice tVal))) c0_2, dC (.slice (.slice .bool)) c0_3, dCs tState c1, mapAs 3 tI tI H[b2]? with
    | some x1, some y0_0, some y0_2, some y0_3, some y1_0, some (n2, y2) => hres [b0, b1, b2] H (.c (.bool (savedF x1 y0_0 y0_2 y0_3 y1_0))) [.cells 123 [.ro tFn y0_0.1, .ro tVal y0_0.2.1, .ro .str y0_0.2.2, .ptr 1 0 0 0, .ro (.slice (.slice tVal)) y0_2, .ro (.slice .bool) y0_3, .map 2], .cells 40 (Ty.enc tState y1_0), .map 3 tI tI n2 y2]
    | _, _, _, _, _, _ => none)
   | _ => none)
   | _ => none)
  | _, _ => none
def heap_lv : LV := ⟨([]), []⟩
noncomputable def heap_T (c : ECell) (p : EProg) (tr : List (List (List EVal))) (wy : List (List Bool)) (s : EState) (n : Nat) (m : Int → Option Int) : Tree :=
 .ite (decide (c.1 = 4))
 (.ite (decide (c.2.1 < (p.1.length : Int)))
  (.need ((0 : Int) ≤ c.2.1 ∧ (c.2.1 : Int) < (p.1.length : Int)) <|
  .need ((Int.toNat c.2.1) < p.1.length) <|
  .ret (.c (.bool (decide ((c.2.2.1.length : Int) = ((p.1.getD (Int.toNat c.2.1) tFn.dflt).2.2.2.1.length : Int))))) [.cells 123 (gJd0 p tr wy), .cells 40 (Ty.enc tState s), .map 3 tI tI n m, .cells 55 (Ty.enc tCell c)])
  (.ret (.c (.lit false)) [.cells 123 (gJd0 p tr wy), .cells 40 (Ty.enc tState s), .map 3 tI tI n m, .cells 55 (Ty.enc tCell c)]))
 (.ite (decide (c.1 = 5))
  (.ite ((!(decide (c.2.1 = 0))))
  (.ret (.c (.lit true)) [.cells 123 (gJd0 p tr wy), .cells 40 (Ty.enc tState s), .map 3 tI tI n m, .cells 55 (Ty.enc tCell c)])
  (.need ((0 : Int) ≤ 0 ∧ (0 : Int) < (c.2.2.2.length : Int)) <|
   .need (0 < c.2.2.2.length) <|
   .callH 166 [.c (.ptr 0 0 0 0), .agg (Ty.enc tFrame (c.2.2.2.getD 0 tFrame.dflt))] [.cells 123 (gJd0 p tr wy), .cells 40 (Ty.enc tState s), .map 3 tI tI n m, .cells 55 (Ty.enc tCell c)] (.c (.bool (savedF (c.2.2.2.getD 0 tFrame.dflt) p tr wy s))) [.cells 123 (gJd0 p tr wy), .cells 40 (Ty.enc tState s), .map 3 tI tI n m, .cells 55 (Ty.enc tCell c)] [0, 1, 2] <|
   .ret (.c (.bool (savedF (c.2.2.2.getD 0 tFrame.dflt) p tr wy s))) [.cells 123 (gJd0 p tr wy), .cells 40 (Ty.enc tState s), .map 3 tI tI n m, .cells 55 (Ty.enc tCell c)]))
  (.ret (.c (.lit true)) [.cells 123 (gJd0 p tr wy), .cells 40 (Ty.enc tState s), .map 3 tI tI n m, .cells 55 (Ty.enc tCell c)]))
theorem heap_fun (c : ECell) (p : EProg) (tr : List (List (List EVal))) (wy : List (List Bool)) (s : EState) (n : Nat) (m : Int → Option Int) (hk : lookOk p tr wy) (hc : (c.1 = 4 → 0 ≤ c.2.1) ∧ (c.1 = 5 → c.2.1 = 0 → 0 < c.2.2.2.length)) : AFunH Tryz.prog 119 [.c (.ptr 0 0 0 0), .agg (tCell.enc c)] [.cells 123 (gJd0 p tr wy), .cells 40 (Ty.enc tState s), .map 3 tI tI n m] (.c (.bool (heapF c p tr wy s))) [.cells 123 (gJd0 p tr wy), .cells 40 (Ty.enc tState s), .map 3 tI tI n m] (List.range 3) :=
 AFunH.of ocLh heap_lv 3000 Tryz.func119 mixed rfl (by decide) (Nat.le_of_ble_eq_true rfl) rfl rfl (Nat.le_refl _) (heap_T c p tr wy s n m) (by kernel_rfl) fun hF => by
  have q1 := pfns_le (b := 0) hF rfl
  have q2 := q1.1
  have q3 := fun k (hk : k < p.1.length) => (q1.2 _ (getD_mem (α := EFn) (Ty.dflt tFn) hk)).2.2.2.2.1
  unfold heap_T
  refine e_start (heapF.eq_1 c p tr wy s) ?_
  repeat' first
   | with_reducible refine e_D (fun _ => ?_) (fun _ => ?_)
   | with_reducible refine e_ND (fun _ => ?_) (fun _ => ?_)
   | refine e_need (by first | omega | (constructor <;> omega) | rfl | (rw [i64_iff]; omega)) ?_
   | refine e_callH (AFunH.frameB [0, 1, 2] (saved_fun (c.2.2.2.getD 0 tFrame.dflt) p tr wy s n m hk) rfl rfl rfl rfl rfl rfl rfl) ?_
   | exact fun hE => g_rh [0, 1, 2] (kk rfl) (by decide) (by simp only [renA, ren1, renC, leAV, leA1, leC]; first | exact hE.symm | exact ⟨rfl, hE.symm⟩ | exact ⟨trivial, hE.symm⟩) rfl

end Go.Proofs.YtkonkblfckhcbaaGreatDoor
namespace Go.Proofs.YtkonkblfckhcbaaGreatDoor
set_option maxHeartbeats 4000000
set_option linter.unusedVariables false
set_option linter.unusedSimpArgs false
set_option maxRecDepth 100000
def rg1F (c : ECell) (p : EProg) (tr : List (List (List EVal))) (wy : List (List Bool)) (s : EState) : Bool :=
 (!(heapF c p tr wy s))
noncomputable def ocMa : Orc where
 pure := fun f args => match f, args with
  | _, _ => none
 heap := fun f args H => match f, args with
  | 119, [.one (.c (.ptr b0 0 0 0)), a1] => (match cellsAs 123 H[b0]? with
   | some [c0_0_0, c0_0_1, c0_0_2, .ptr b1 0 0 0, c0_2, c0_3, .map b2] => (match cellsAs 40 H[b1]? with
   | some c1 => (match dA tCell a1, dCs tProg [c0_0_0, c0_0_1, c0_0_2], dC (.slice (.slice (.slice tVal))) c0_2, dC (.slice (.slice .bool)) c0_3, dCs tState c1, mapAs 3 tI tI H[b2]? with
    | some x1, some y0_0, some y0_2, some y0_3, some y1_0, some (n2, y2) => hres [b0, b1, b2] H (.c (.bool (heapF x1 y0_0 y0_2 y0_3 y1_0))) [.cells 123 [.ro tFn y0_0.1, .ro tVal y0_0.2.1, .ro .str y0_0.2.2, .ptr 1 0 0 0, .ro (.slice (.slice tVal)) y0_2, .ro (.slice .bool) y0_3, .map 2], .cells 40 (Ty.enc tState y1_0), .map 3 tI tI n2 y2]
    | _, _, _, _, _, _ => none)
   | _ => none)
   | _ => none)
  | _, _ => none
def rg1_lv : LV := ⟨([]), []⟩
abbrev gJe1 (p : EProg) (tr : List (List (List EVal))) (wy : List (List Bool)) : List CV := [.ro tFn p.1, .ro tVal p.2.1, .ro .str p.2.2, .ptr 2 0 0 0, .ro (.slice (.slice tVal)) tr, .ro (.slice .bool) wy, .map 3]
noncomputable def rg1_T (c : ECell) (p : EProg) (tr : List (List (List EVal))) (wy : List (List Bool)) (s : EState) (n : Nat) (m : Int → Option Int) : Tree :=
 .callH 119 [.c (.ptr 1 0 0 0), .agg (Ty.enc tCell c)] [.cells 117 [.ptr 1 0 0 0], .cells 123 (gJe1 p tr wy), .cells 40 (Ty.enc tState s), .map 3 tI tI n m, .cells 55 (Ty.enc tCell c)] (.c (.bool (heapF c p tr wy s))) [.cells 117 [.ptr 1 0 0 0], .cells 123 (gJe1 p tr wy), .cells 40 (Ty.enc tState s), .map 3 tI tI n m, .cells 55 (Ty.enc tCell c)] [1, 2, 3] <|
 .ret (.c (.bool (!(heapF c p tr wy s)))) [.cells 117 [.ptr 1 0 0 0], .cells 123 (gJe1 p tr wy), .cells 40 (Ty.enc tState s), .map 3 tI tI n m, .cells 55 (Ty.enc tCell c)]
theorem rg1_fun (c : ECell) (p : EProg) (tr : List (List (List EVal))) (wy : List (List Bool)) (s : EState) (n : Nat) (m : Int → Option Int) (hk : lookOk p tr wy) (hc : (c.1 = 4 → 0 ≤ c.2.1) ∧ (c.1 = 5 → c.2.1 = 0 → 0 < c.2.2.2.length)) : AFunH Tryz.prog 118 [.agg (tCell.enc c), .c (.ptr 0 0 0 0)] [.cells 117 [.ptr 1 0 0 0], .cells 123 (gJe1 p tr wy), .cells 40 (Ty.enc tState s), .map 3 tI tI n m] (.c (.bool (rg1F c p tr wy s))) [.cells 117 [.ptr 1 0 0 0], .cells 123 (gJe1 p tr wy), .cells 40 (Ty.enc tState s), .map 3 tI tI n m] (List.range 4) :=
 AFunH.of ocMa rg1_lv 3000 Tryz.func118 mixed rfl (by decide) (Nat.le_of_ble_eq_true rfl) rfl rfl (Nat.le_refl _) (rg1_T c p tr wy s n m) (by kernel_rfl) fun hF => by
  unfold rg1_T
  refine e_start (rg1F.eq_1 c p tr wy s) ?_
  repeat' first
   | refine e_callH (AFunH.frameB [1, 2, 3] (heap_fun c p tr wy s n m hk hc) rfl rfl rfl rfl rfl rfl rfl) ?_
   | exact fun hE => g_rh [0, 1, 2, 3] (kk rfl) (by decide) (by simp only [renA, ren1, renC, leAV, leA1, leC]; first | exact hE.symm | exact ⟨rfl, hE.symm⟩ | exact ⟨trivial, hE.symm⟩) rfl

noncomputable def ocMb : Orc where
 pure := fun f args => match f, args with
  | _, _ => none
 heap := fun f args H => match f, args with
  | 118, [a0, .one (.c (.ptr b0 0 0 0))] => (match cellsAs 117 H[b0]? with
   | some [.ptr b1 0 0 0] => (match cellsAs 123 H[b1]? with
   | some [c1_0_0, c1_0_1, c1_0_2, .ptr b2 0 0 0, c1_2, c1_3, .map b3] => (match cellsAs 40 H[b2]? with
   | some c2 => (match dA tCell a0, dCs tProg [c1_0_0, c1_0_1, c1_0_2], dC (.slice (.slice (.slice tVal))) c1_2, dC (.slice (.slice .bool)) c1_3, dCs tState c2, mapAs 3 tI tI H[b3]? with
    | some x0, some y1_0, some y1_2, some y1_3, some y2_0, some (n3, y3) => hres [b0, b1, b2, b3] H (.c (.bool (rg1F x0 y1_0 y1_2 y1_3 y2_0))) [.cells 117 [.ptr 1 0 0 0], .cells 123 [.ro tFn y1_0.1, .ro tVal y1_0.2.1, .ro .str y1_0.2.2, .ptr 2 0 0 0, .ro (.slice (.slice tVal)) y1_2, .ro (.slice .bool) y1_3, .map 3], .cells 40 (Ty.enc tState y2_0), .map 3 tI tI n3 y3]
    | _, _, _, _, _, _ => none)
   | _ => none)
   | _ => none)
   | _ => none)
  | _, _ => none
def jRg1I_lv : LV := ⟨(true :: true :: F4 (false :: true :: true :: F8 (F2 ([])))), []⟩
noncomputable def jRg1I_T (l : List ECell) (p : EProg) (tr : List (List (List EVal))) (wy : List (List Bool)) (s : EState) (n : Nat) (m : Int → Option Int) : Tree :=
 .stop (lp (bodyOf Tryz.f155) 0) (.c (.ro tCell l) :: .c (.fnc (.fn0 118) (.ptr 0 0 0 0)) :: J4 (.junk :: .c (.int .i64 (l.length : Int)) :: .c (.int .i64 0) :: J8 (J2 ([])))) [.cells 117 [.ptr 1 0 0 0], .cells 123 (gJe1 p tr wy), .cells 40 (Ty.enc tState s), .map 3 tI tI n m]
noncomputable def jRg1I_l0_R (l : List ECell) (p : EProg) (tr : List (List (List EVal))) (wy : List (List Bool)) (s : EState) (n : Nat) (m : Int → Option Int) (i : Nat) : Tree :=
 .ite (decide (((i : Nat) : Int) < (l.length : Int)))
 (.need ((0 : Int) ≤ ((i : Nat) : Int) ∧ (((i : Nat) : Int) : Int) < (l.length : Int)) <|
  .need (i < l.length) <|
  .callH 118 [.agg (Ty.enc tCell (l.getD i tCell.dflt)), .c (.ptr 0 0 0 0)] [.cells 117 [.ptr 1 0 0 0], .cells 123 (gJe1 p tr wy), .cells 40 (Ty.enc tState s), .map 3 tI tI n m] (.c (.bool (rg1F (l.getD i tCell.dflt) p tr wy s))) [.cells 117 [.ptr 1 0 0 0], .cells 123 (gJe1 p tr wy), .cells 40 (Ty.enc tState s), .map 3 tI tI n m] [0, 1, 2, 3] <|
  .ite (rg1F (l.getD i tCell.dflt) p tr wy s)
  (.ret (.c (.int .i64 ((i : Nat) : Int))) [.cells 117 [.ptr 1 0 0 0], .cells 123 (gJe1 p tr wy), .cells 40 (Ty.enc tState s), .map 3 tI tI n m])
  (.need (inR .i64 (((i : Nat) : Int) + 1)) <|
  .stop (lp (bodyOf Tryz.f155) 0) (.c (.ro tCell l) :: .c (.fnc (.fn0 118) (.ptr 0 0 0 0)) :: J4 (.junk :: .c (.int .i64 (l.length : Int)) :: .c (.int .i64 (((i : Nat) : Int) + 1)) :: J8 (J2 ([])))) [.cells 117 [.ptr 1 0 0 0], .cells 123 (gJe1 p tr wy), .cells 40 (Ty.enc tState s), .map 3 tI tI n m]))
 (.ret (.c (.int .i64 (-1))) [.cells 117 [.ptr 1 0 0 0], .cells 123 (gJe1 p tr wy), .cells 40 (Ty.enc tState s), .map 3 tI tI n m])
theorem jRg1I_l0 (l : List ECell) (p : EProg) (tr : List (List (List EVal))) (wy : List (List Bool)) (s : EState) (n : Nat) (m : Int → Option Int) (i : Nat) (hl : l.length ≤ 9223372036854775807) (hk : lookOk p tr wy) (hc : ∀ c ∈ l, (c.1 = 4 → 0 ≤ c.2.1) ∧ (c.1 = 5 → c.2.1 = 0 → 0 < c.2.2.2.length)) : RunN 4 Tryz.prog 155 (retH 4 (.c (.int .i64 (fstG (fun c => rg1F c p tr wy s) i (l.drop i)))) [.cells 117 [.ptr 1 0 0 0], .cells 123 (gJe1 p tr wy), .cells 40 (Ty.enc tState s), .map 3 tI tI n m]) (lp (bodyOf Tryz.f155) 0) (.c (.ro tCell l) :: .c (.fnc (.fn0 118) (.ptr 0 0 0 0)) :: J4 (.junk :: .c (.int .i64 (l.length : Int)) :: .c (.int .i64 ((i : Nat) : Int)) :: J8 (J2 ([])))) [.cells 117 [.ptr 1 0 0 0], .cells 123 (gJe1 p tr wy), .cells 40 (Ty.enc tState s), .map 3 tI tI n m] :=
 Run.roundA ocMb jRg1I_lv 3000 Tryz.func155 mixed (jRg1I_l0_R l p tr wy s n m i) (by kernel_rfl) (by
  unfold jRg1I_l0_R
  repeat' first
  | with_reducible refine g_iteD (fun h => ?_) (fun h => ?_)
  | with_reducible refine g_ite (fun h => ?_) (fun h => ?_)
  | refine g_need (by first | (omega) | exact i64_iff.2 (by omega)) ?_
  | refine g_callH (AFunH.frameB [0, 1, 2, 3] (rg1_fun (l.getD i tCell.dflt) p tr wy s n m hk (hc _ (getD_mem (α := ECell) (Ty.dflt tCell) (by omega)))) rfl rfl rfl rfl rfl rfl rfl) ?_
  | (exact g_rh [0, 1, 2, 3] (kk rfl) (by decide) (by simp only [renA, ren1, renC, leAV, leA1, leC]; refine ⟨trivial, ?_⟩; first | (rw [dropCons (α := ECell) (Ty.dflt tCell) (by omega)]; simp only [fstG, *, if_true, decide_true]; done) | (rw [List.drop_eq_nil_of_le (by omega)]; rfl)) rfl)
  | (refine g_stop (RunN.keep [0, 1, 2, 3] (true :: true :: F4 (false :: true :: true :: F8 (F2 ([])))) (kk rfl) (by decide) rfl rfl ?_); have := jRg1I_l0 l p tr wy s n m (i + 1) hl hk hc; rw [dropCons (α := ECell) (Ty.dflt tCell) (by omega)]; simp only [fstG, *, if_false, Bool.false_eq_true, decide_false]; exact this)
  )
 termination_by l.length - i
 decreasing_by all_goals omega
theorem jRg1I_fun (l : List ECell) (p : EProg) (tr : List (List (List EVal))) (wy : List (List Bool)) (s : EState) (n : Nat) (m : Int → Option Int) (hk : lookOk p tr wy) (hc : ∀ c ∈ l, (c.1 = 4 → 0 ≤ c.2.1) ∧ (c.1 = 5 → c.2.1 = 0 → 0 < c.2.2.2.length)) : AFunH Tryz.prog 155 [.c (.ro tCell l), .c (.fnc (.fn0 118) (.ptr 0 0 0 0))] [.cells 117 [.ptr 1 0 0 0], .cells 123 (gJe1 p tr wy), .cells 40 (Ty.enc tState s), .map 3 tI tI n m] (.c (.int .i64 (fstG (fun c => rg1F c p tr wy s) 0 l))) [.cells 117 [.ptr 1 0 0 0], .cells 123 (gJe1 p tr wy), .cells 40 (Ty.enc tState s), .map 3 tI tI n m] (List.range 4) :=
 AFunH.of ocMb jRg1I_lv 3000 Tryz.func155 mixed rfl (by decide) (Nat.le_of_ble_eq_true rfl) rfl rfl (Nat.le_refl _) (jRg1I_T l p tr wy s n m) (by kernel_rfl) fun hF => by
  have hl : l.length ≤ 9223372036854775807 := (hF.ro (i := 0) rfl).1
  unfold jRg1I_T
  refine g_stop (RunN.keep [0, 1, 2, 3] (true :: true :: F4 (false :: true :: true :: F8 (F2 ([])))) (kk rfl) (by decide) rfl rfl ?_)
  exact jRg1I_l0 l p tr wy s n m 0 hl hk hc

noncomputable def ocMbc : Orc where
 pure := fun f args => match f, args with
  | _, _ => none
 heap := fun f args H => match f, args with
  | 155, [a0, .one (.c (.fnc (.fn0 118) (.ptr b0 0 0 0)))] => (match cellsAs 117 H[b0]? with
   | some [.ptr b1 0 0 0] => (match cellsAs 123 H[b1]? with
   | some [c1_0_0, c1_0_1, c1_0_2, .ptr b2 0 0 0, c1_2, c1_3, .map b3] => (match cellsAs 40 H[b2]? with
   | some c2 => (match dA (.slice tCell) a0, dCs tProg [c1_0_0, c1_0_1, c1_0_2], dC (.slice (.slice (.slice tVal))) c1_2, dC (.slice (.slice .bool)) c1_3, dCs tState c2, mapAs 3 tI tI H[b3]? with
    | some x0, some y1_0, some y1_2, some y1_3, some y2_0, some (n3, y3) => hres [b0, b1, b2, b3] H (.c (.int .i64 (fstG (fun c => rg1F c y1_0 y1_2 y1_3 y2_0) 0 x0))) [.cells 117 [.ptr 1 0 0 0], .cells 123 [.ro tFn y1_0.1, .ro tVal y1_0.2.1, .ro .str y1_0.2.2, .ptr 2 0 0 0, .ro (.slice (.slice tVal)) y1_2, .ro (.slice .bool) y1_3, .map 3], .cells 40 (Ty.enc tState y2_0), .map 3 tI tI n3 y3]
    | _, _, _, _, _, _ => none)
   | _ => none)
   | _ => none)
   | _ => none)
  | _, _ => none
def jRg1C_lv : LV := ⟨([]), []⟩
noncomputable def jRg1C_T (l : List ECell) (p : EProg) (tr : List (List (List EVal))) (wy : List (List Bool)) (s : EState) (n : Nat) (m : Int → Option Int) : Tree :=
 .callH 155 [.c (.ro tCell l), .c (.fnc (.fn0 118) (.ptr 0 0 0 0))] [.cells 117 [.ptr 1 0 0 0], .cells 123 (gJe1 p tr wy), .cells 40 (Ty.enc tState s), .map 3 tI tI n m] (.c (.int .i64 (fstG (fun c => rg1F c p tr wy s) 0 l))) [.cells 117 [.ptr 1 0 0 0], .cells 123 (gJe1 p tr wy), .cells 40 (Ty.enc tState s), .map 3 tI tI n m] [0, 1, 2, 3] <|
 .ret (.c (.bool (decide ((0 : Int) ≤ fstG (fun c => rg1F c p tr wy s) 0 l)))) [.cells 117 [.ptr 1 0 0 0], .cells 123 (gJe1 p tr wy), .cells 40 (Ty.enc tState s), .map 3 tI tI n m]
theorem jRg1C_fun (l : List ECell) (p : EProg) (tr : List (List (List EVal))) (wy : List (List Bool)) (s : EState) (n : Nat) (m : Int → Option Int) (hk : lookOk p tr wy) (hc : ∀ c ∈ l, (c.1 = 4 → 0 ≤ c.2.1) ∧ (c.1 = 5 → c.2.1 = 0 → 0 < c.2.2.2.length)) : AFunH Tryz.prog 105 [.c (.ro tCell l), .c (.fnc (.fn0 118) (.ptr 0 0 0 0))] [.cells 117 [.ptr 1 0 0 0], .cells 123 (gJe1 p tr wy), .cells 40 (Ty.enc tState s), .map 3 tI tI n m] (.c (.bool (List.any l (fun c => rg1F c p tr wy s)))) [.cells 117 [.ptr 1 0 0 0], .cells 123 (gJe1 p tr wy), .cells 40 (Ty.enc tState s), .map 3 tI tI n m] (List.range 4) :=
 AFunH.of ocMbc jRg1C_lv 3000 Tryz.func105 mixed rfl (by decide) (Nat.le_of_ble_eq_true rfl) rfl rfl (Nat.le_refl _) (jRg1C_T l p tr wy s n m) (by kernel_rfl) fun hF => by
  unfold jRg1C_T
  refine g_callH (AFunH.frameB [0, 1, 2, 3] (jRg1I_fun l p tr wy s n m hk hc) rfl rfl rfl rfl rfl rfl rfl) ?_
  exact g_rh [0, 1, 2, 3] (kk rfl) (by decide) (by simp only [renA, ren1, renC, leAV, leA1, leC]; exact fstG_ge) rfl

def stStep (fs : List EFrame) (p : EProg) (tr : List (List (List EVal))) (wy : List (List Bool)) (s : EState) (k : Nat) (j : Nat) (u : Int → Option Int) : Option (Nat × (Int → Option Int)) :=
 if (0 : Int) < ((k : Nat) : Int) then
  if (frameF (fs.getD k tFrame.dflt) p tr wy s) = true then
   if (swithinF (fs.getD k tFrame.dflt).2.2.1 (-1) (((fs.getD (Int.toNat (((k : Nat) : Int) - 1)) tFrame.dflt).2.2.2.2.2.1.length : Int) - 1)) = true then
    if ((p.1.getD (Int.toNat (if (if ((p.1.length : Int) - 1) < (fs.getD k tFrame.dflt).1 then ((p.1.length : Int) - 1) else (fs.getD k tFrame.dflt).1) > 0 then (if ((p.1.length : Int) - 1) < (fs.getD k tFrame.dflt).1 then ((p.1.length : Int) - 1) else (fs.getD k tFrame.dflt).1) else 0)) tFn.dflt).2.2.1 == (decide ((0 : Int) ≤ (fs.getD k tFrame.dflt).2.2.2.1))) = true then
     if (fs.getD k tFrame.dflt).2.2.2.1 < (-1) then
      none
     else
      if (p.1.getD (Int.toNat (if (if ((p.1.length : Int) - 1) < (fs.getD k tFrame.dflt).1 then ((p.1.length : Int) - 1) else (fs.getD k tFrame.dflt).1) > 0 then (if ((p.1.length : Int) - 1) < (fs.getD k tFrame.dflt).1 then ((p.1.length : Int) - 1) else (fs.getD k tFrame.dflt).1) else 0)) tFn.dflt).2.2.1 = true then
       if ((k : Nat) : Int) = 0 then
        none
       else
        if (lcellF (5, (fs.getD k tFrame.dflt).2.2.2.1) 5 p tr wy s).2 = true then
         if (lcellF (5, (fs.getD k tFrame.dflt).2.2.2.1) 5 p tr wy s).1.2.1 = 1 then
          if ((u (fs.getD k tFrame.dflt).2.2.2.1).getD 0) = 1 then
           none
          else
           some ((j + 1), (updM (kt := tI) u (fs.getD k tFrame.dflt).2.2.2.1 (1 : Int)))
         else
          none
        else
         none
      else
       some (j, u)
    else
     none
   else
    none
  else
   none
 else
  if (frameF (fs.getD k tFrame.dflt) p tr wy s) = true then
   if (swithinF (fs.getD k tFrame.dflt).2.2.1 (-1) (0 - 1)) = true then
    if ((p.1.getD (Int.toNat (if (if ((p.1.length : Int) - 1) < (fs.getD k tFrame.dflt).1 then ((p.1.length : Int) - 1) else (fs.getD k tFrame.dflt).1) > 0 then (if ((p.1.length : Int) - 1) < (fs.getD k tFrame.dflt).1 then ((p.1.length : Int) - 1) else (fs.getD k tFrame.dflt).1) else 0)) tFn.dflt).2.2.1 == (decide ((0 : Int) ≤ (fs.getD k tFrame.dflt).2.2.2.1))) = true then
     if (fs.getD k tFrame.dflt).2.2.2.1 < (-1) then
      none
     else
      if (p.1.getD (Int.toNat (if (if ((p.1.length : Int) - 1) < (fs.getD k tFrame.dflt).1 then ((p.1.length : Int) - 1) else (fs.getD k tFrame.dflt).1) > 0 then (if ((p.1.length : Int) - 1) < (fs.getD k tFrame.dflt).1 then ((p.1.length : Int) - 1) else (fs.getD k tFrame.dflt).1) else 0)) tFn.dflt).2.2.1 = true then
       if ((k : Nat) : Int) = 0 then
        none
       else
        if (lcellF (5, (fs.getD k tFrame.dflt).2.2.2.1) 5 p tr wy s).2 = true then
         if (lcellF (5, (fs.getD k tFrame.dflt).2.2.2.1) 5 p tr wy s).1.2.1 = 1 then
          if ((u (fs.getD k tFrame.dflt).2.2.2.1).getD 0) = 1 then
           none
          else
           some ((j + 1), (updM (kt := tI) u (fs.getD k tFrame.dflt).2.2.2.1 (1 : Int)))
         else
          none
        else
         none
      else
       some (j, u)
    else
     none
   else
    none
  else
   none
def stGo (fs : List EFrame) (p : EProg) (tr : List (List (List EVal))) (wy : List (List Bool)) (s : EState) (k : Nat) (n : Nat) (m : Int → Option Int) : Bool × Nat × (Int → Option Int) :=
 if k < fs.length then (match stStep fs p tr wy s k n m with
  | none => (false, n, m)
  | some a => stGo fs p tr wy s (k + 1) a.1 a.2) else (true, n, m)
termination_by fs.length - k
theorem stGo_none {fs : List EFrame} {p : EProg} {tr : List (List (List EVal))} {wy : List (List Bool)} {s : EState} {k n : Nat} {m : Int → Option Int} (h : k < fs.length) (h' : stStep fs p tr wy s k n m = none) : stGo fs p tr wy s k n m = (false, n, m) := by
 rw [stGo, if_pos h, h']
theorem stGo_some {fs : List EFrame} {p : EProg} {tr : List (List (List EVal))} {wy : List (List Bool)} {s : EState} {k n : Nat} {m : Int → Option Int} {a : Nat × (Int → Option Int)} (h : k < fs.length) (h' : stStep fs p tr wy s k n m = some a) : stGo fs p tr wy s k n m = stGo fs p tr wy s (k + 1) a.1 a.2 := by
 rw [stGo, if_pos h, h']
theorem stGo_end {fs : List EFrame} {p : EProg} {tr : List (List (List EVal))} {wy : List (List Bool)} {s : EState} {k n : Nat} {m : Int → Option Int} (h : ¬ k < fs.length) : stGo fs p tr wy s k n m = (true, n, m) := by
 rw [stGo, if_neg h]
noncomputable def ocMc : Orc where
 pure := fun f args => match f, args with
  | 117, [a0, a1, a2] => match dA tI a0, dA tI a1, dA tI a2 with
   | some x0, some x1, some x2 => some (.c (.bool (swithinF x0 x1 x2)))
   | _, _, _ => none
  | _, _ => none
 heap := fun f args H => match f, args with
  | 168, [.one (.c (.ptr b0 0 0 0)), a1, a2] => (match cellsAs 123 H[b0]? with
   | some [c0_0_0, c0_0_1, c0_0_2, .ptr b1 0 0 0, c0_2, c0_3, .map b2] => (match cellsAs 40 H[b1]? with
   | some c1 => (match dA tVal a1, dA tI a2, dCs tProg [c0_0_0, c0_0_1, c0_0_2], dC (.slice (.slice (.slice tVal))) c0_2, dC (.slice (.slice .bool)) c0_3, dCs tState c1, mapAs 3 tI tI H[b2]? with
    | some x1, some x2, some y0_0, some y0_2, some y0_3, some y1_0, some (n2, y2) => hres [b0, b1, b2] H (.tup [.agg (Ty.enc tCell ((lcellF x1 x2 y0_0 y0_2 y0_3 y1_0).1)), .c (.bool ((lcellF x1 x2 y0_0 y0_2 y0_3 y1_0).2))]) [.cells 123 [.ro tFn y0_0.1, .ro tVal y0_0.2.1, .ro .str y0_0.2.2, .ptr 1 0 0 0, .ro (.slice (.slice tVal)) y0_2, .ro (.slice .bool) y0_3, .map 2], .cells 40 (Ty.enc tState y1_0), .map 3 tI tI n2 y2]
    | _, _, _, _, _, _, _ => none)
   | _ => none)
   | _ => none)
  | 204, [.one (.c (.ptr b0 0 0 0)), a1] => (match cellsAs 123 H[b0]? with
   | some [c0_0_0, c0_0_1, c0_0_2, .ptr b1 0 0 0, c0_2, c0_3, .map b2] => (match cellsAs 40 H[b1]? with
   | some c1 => (match dA tFrame a1, dCs tProg [c0_0_0, c0_0_1, c0_0_2], dC (.slice (.slice (.slice tVal))) c0_2, dC (.slice (.slice .bool)) c0_3, dCs tState c1, mapAs 3 tI tI H[b2]? with
    | some x1, some y0_0, some y0_2, some y0_3, some y1_0, some (n2, y2) => hres [b0, b1, b2] H (.c (.bool (frameF x1 y0_0 y0_2 y0_3 y1_0))) [.cells 123 [.ro tFn y0_0.1, .ro tVal y0_0.2.1, .ro .str y0_0.2.2, .ptr 1 0 0 0, .ro (.slice (.slice tVal)) y0_2, .ro (.slice .bool) y0_3, .map 2], .cells 40 (Ty.enc tState y1_0), .map 3 tI tI n2 y2]
    | _, _, _, _, _, _ => none)
   | _ => none)
   | _ => none)
  | _, _ => none
def stack_lv : LV := ⟨(true :: true :: F8 (false :: true :: true :: true :: F32 (F32 (F16 (F8 (F4 (F2 ([])))))))), []⟩
abbrev gJe2 (p : EProg) (tr : List (List (List EVal))) (wy : List (List Bool)) : List CV := [.ro tFn p.1, .ro tVal p.2.1, .ro .str p.2.2, .ptr 1 0 0 0, .ro (.slice (.slice tVal)) tr, .ro (.slice .bool) wy, .map 2]
noncomputable def stack_T (fs : List EFrame) (p : EProg) (tr : List (List (List EVal))) (wy : List (List Bool)) (s : EState) (n : Nat) (m : Int → Option Int) : Tree :=
 .stop (lp (bodyOf Tryz.f169) 0) (.c (.ptr 0 0 0 0) :: .c (.ro tFrame fs) :: J8 (.junk :: .c (.ro tFrame fs) :: .c (.int .i64 (fs.length : Int)) :: .c (.int .i64 0) :: J32 (J32 (J16 (J8 (J4 (J2 ([])))))))) [.cells 123 (gJe2 p tr wy), .cells 40 (Ty.enc tState s), .map 3 tI tI n m]
abbrev gJe0 (fs : List EFrame) (k : Nat) : List AV := (.junk :: .c (.ro tFrame fs) :: .c (.int .i64 (fs.length : Int)) :: .c (.int .i64 (((k : Nat) : Int) + 1)) :: J32 (J32 (J16 (J8 (J4 (J2 ([])))))))
noncomputable def stack_l0_R (fs : List EFrame) (p : EProg) (tr : List (List (List EVal))) (wy : List (List Bool)) (s : EState) (n : Nat) (m : Int → Option Int) (k : Nat) (j : Nat) (u : Int → Option Int) : Tree :=
 .ite (decide (((k : Nat) : Int) < (fs.length : Int)))
 (.need ((0 : Int) ≤ ((k : Nat) : Int) ∧ (((k : Nat) : Int) : Int) < (fs.length : Int)) <|
  .need (k < fs.length) <|
  .ite (decide ((0 : Int) < ((k : Nat) : Int)))
  (.need (inR .i64 (((k : Nat) : Int) - 1)) <|
  .need ((0 : Int) ≤ (((k : Nat) : Int) - 1) ∧ ((((k : Nat) : Int) - 1) : Int) < (fs.length : Int)) <|
  .need ((Int.toNat (((k : Nat) : Int) - 1)) < fs.length) <|
  .need (inR .i64 ((p.1.length : Int) - 1)) <|
  .need (inR .i64 ((p.1.length : Int) - 1)) <|
  .need (inR .i64 (if ((p.1.length : Int) - 1) < (fs.getD k tFrame.dflt).1 then ((p.1.length : Int) - 1) else (fs.getD k tFrame.dflt).1)) <|
  .need ((0 : Int) ≤ (if (if ((p.1.length : Int) - 1) < (fs.getD k tFrame.dflt).1 then ((p.1.length : Int) - 1) else (fs.getD k tFrame.dflt).1) > 0 then (if ((p.1.length : Int) - 1) < (fs.getD k tFrame.dflt).1 then ((p.1.length : Int) - 1) else (fs.getD k tFrame.dflt).1) else 0) ∧ ((if (if ((p.1.length : Int) - 1) < (fs.getD k tFrame.dflt).1 then ((p.1.length : Int) - 1) else (fs.getD k tFrame.dflt).1) > 0 then (if ((p.1.length : Int) - 1) < (fs.getD k tFrame.dflt).1 then ((p.1.length : Int) - 1) else (fs.getD k tFrame.dflt).1) else 0) : Int) < (p.1.length : Int)) <|
  .need ((Int.toNat (if (if ((p.1.length : Int) - 1) < (fs.getD k tFrame.dflt).1 then ((p.1.length : Int) - 1) else (fs.getD k tFrame.dflt).1) > 0 then (if ((p.1.length : Int) - 1) < (fs.getD k tFrame.dflt).1 then ((p.1.length : Int) - 1) else (fs.getD k tFrame.dflt).1) else 0)) < p.1.length) <|
  .callH 204 [.c (.ptr 0 0 0 0), .agg (Ty.enc tFrame (fs.getD k tFrame.dflt))] [.cells 123 (gJe2 p tr wy), .cells 40 (Ty.enc tState s), .map 3 tI tI j u, .cells 61 (Ty.enc tFrame (fs.getD k tFrame.dflt))] (.c (.bool (frameF (fs.getD k tFrame.dflt) p tr wy s))) [.cells 123 (gJe2 p tr wy), .cells 40 (Ty.enc tState s), .map 3 tI tI j u, .cells 61 (Ty.enc tFrame (fs.getD k tFrame.dflt))] [0, 1, 2] <|
  .ite ((!(frameF (fs.getD k tFrame.dflt) p tr wy s)))
  (.ret (.c (.lit false)) [.cells 123 (gJe2 p tr wy), .cells 40 (Ty.enc tState s), .map 3 tI tI j u, .cells 61 (Ty.enc tFrame (fs.getD k tFrame.dflt))])
  (.need (inR .i64 (((fs.getD (Int.toNat (((k : Nat) : Int) - 1)) tFrame.dflt).2.2.2.2.2.1.length : Int) - 1)) <|
   .call 117 [.c (.int .i64 (fs.getD k tFrame.dflt).2.2.1), .c (.int .i64 (-1)), .c (.int .i64 (((fs.getD (Int.toNat (((k : Nat) : Int) - 1)) tFrame.dflt).2.2.2.2.2.1.length : Int) - 1))] false (.c (.bool (swithinF (fs.getD k tFrame.dflt).2.2.1 (-1) (((fs.getD (Int.toNat (((k : Nat) : Int) - 1)) tFrame.dflt).2.2.2.2.2.1.length : Int) - 1)))) <|
   .ite ((!(swithinF (fs.getD k tFrame.dflt).2.2.1 (-1) (((fs.getD (Int.toNat (((k : Nat) : Int) - 1)) tFrame.dflt).2.2.2.2.2.1.length : Int) - 1))))
   (.ret (.c (.lit false)) [.cells 123 (gJe2 p tr wy), .cells 40 (Ty.enc tState s), .map 3 tI tI j u, .cells 61 (Ty.enc tFrame (fs.getD k tFrame.dflt))])
   (.ite ((!((p.1.getD (Int.toNat (if (if ((p.1.length : Int) - 1) < (fs.getD k tFrame.dflt).1 then ((p.1.length : Int) - 1) else (fs.getD k tFrame.dflt).1) > 0 then (if ((p.1.length : Int) - 1) < (fs.getD k tFrame.dflt).1 then ((p.1.length : Int) - 1) else (fs.getD k tFrame.dflt).1) else 0)) tFn.dflt).2.2.1 == (decide ((0 : Int) ≤ (fs.getD k tFrame.dflt).2.2.2.1)))))
   (.ret (.c (.lit false)) [.cells 123 (gJe2 p tr wy), .cells 40 (Ty.enc tState s), .map 3 tI tI j u, .cells 61 (Ty.enc tFrame (fs.getD k tFrame.dflt))])
   (.ite (decide ((fs.getD k tFrame.dflt).2.2.2.1 < (-1)))
    (.ret (.c (.lit false)) [.cells 123 (gJe2 p tr wy), .cells 40 (Ty.enc tState s), .map 3 tI tI j u, .cells 61 (Ty.enc tFrame (fs.getD k tFrame.dflt))])
    (.ite ((!(p.1.getD (Int.toNat (if (if ((p.1.length : Int) - 1) < (fs.getD k tFrame.dflt).1 then ((p.1.length : Int) - 1) else (fs.getD k tFrame.dflt).1) > 0 then (if ((p.1.length : Int) - 1) < (fs.getD k tFrame.dflt).1 then ((p.1.length : Int) - 1) else (fs.getD k tFrame.dflt).1) else 0)) tFn.dflt).2.2.1))
    (.need (inR .i64 (((k : Nat) : Int) + 1)) <|
     .stop (lp (bodyOf Tryz.f169) 0) (.c (.ptr 0 0 0 0) :: .c (.ro tFrame fs) :: J8 (gJe0 fs k)) [.cells 123 (gJe2 p tr wy), .cells 40 (Ty.enc tState s), .map 3 tI tI j u, .cells 61 (Ty.enc tFrame (fs.getD k tFrame.dflt))])
    (.callH 168 [.c (.ptr 0 0 0 0), .agg [.int .i64 5, .int .i64 (fs.getD k tFrame.dflt).2.2.2.1], .c (.int .i64 5)] [.cells 123 (gJe2 p tr wy), .cells 40 (Ty.enc tState s), .map 3 tI tI j u, .cells 61 (Ty.enc tFrame (fs.getD k tFrame.dflt))] (.tup [.agg (Ty.enc tCell (lcellF (5, (fs.getD k tFrame.dflt).2.2.2.1) 5 p tr wy s).1), .c (.bool (lcellF (5, (fs.getD k tFrame.dflt).2.2.2.1) 5 p tr wy s).2)]) [.cells 123 (gJe2 p tr wy), .cells 40 (Ty.enc tState s), .map 3 tI tI j u, .cells 61 (Ty.enc tFrame (fs.getD k tFrame.dflt))] [0, 1, 2] <|
     .ite (decide (((k : Nat) : Int) = 0))
     (.ret (.c (.lit false)) [.cells 123 (gJe2 p tr wy), .cells 40 (Ty.enc tState s), .map 3 tI tI j u, .cells 61 (Ty.enc tFrame (fs.getD k tFrame.dflt)), .cells 55 (Ty.enc tCell (lcellF (5, (fs.getD k tFrame.dflt).2.2.2.1) 5 p tr wy s).1)])
     (.ite ((!(lcellF (5, (fs.getD k tFrame.dflt).2.2.2.1) 5 p tr wy s).2))
     (.ret (.c (.lit false)) [.cells 123 (gJe2 p tr wy), .cells 40 (Ty.enc tState s), .map 3 tI tI j u, .cells 61 (Ty.enc tFrame (fs.getD k tFrame.dflt)), .cells 55 (Ty.enc tCell (lcellF (5, (fs.getD k tFrame.dflt).2.2.2.1) 5 p tr wy s).1)])
     (.ite ((!(decide ((lcellF (5, (fs.getD k tFrame.dflt).2.2.2.1) 5 p tr wy s).1.2.1 = 1))))
      (.ret (.c (.lit false)) [.cells 123 (gJe2 p tr wy), .cells 40 (Ty.enc tState s), .map 3 tI tI j u, .cells 61 (Ty.enc tFrame (fs.getD k tFrame.dflt)), .cells 55 (Ty.enc tCell (lcellF (5, (fs.getD k tFrame.dflt).2.2.2.1) 5 p tr wy s).1)])
      (.need (Tryz.prog = Tryz.prog ∧ MapLaw Tryz.prog 3 tI) <|
      .ite (decide (((u (fs.getD k tFrame.dflt).2.2.2.1).getD 0) = 1))
      (.ret (.c (.lit false)) [.cells 123 (gJe2 p tr wy), .cells 40 (Ty.enc tState s), .map 3 tI tI j u, .cells 61 (Ty.enc tFrame (fs.getD k tFrame.dflt)), .cells 55 (Ty.enc tCell (lcellF (5, (fs.getD k tFrame.dflt).2.2.2.1) 5 p tr wy s).1)])
      (.need (Tryz.prog = Tryz.prog ∧ MapLaw Tryz.prog 3 tI ∧ j < 140737488355328) <|
       .need (inR .i64 (((k : Nat) : Int) + 1)) <|
       .stop (lp (bodyOf Tryz.f169) 0) (.c (.ptr 0 0 0 0) :: .c (.ro tFrame fs) :: J8 (gJe0 fs k)) [.cells 123 (gJe2 p tr wy), .cells 40 (Ty.enc tState s), .map 3 tI tI (j + 1) (updM (kt := tI) u (fs.getD k tFrame.dflt).2.2.2.1 (1 : Int)), .cells 61 (Ty.enc tFrame (fs.getD k tFrame.dflt)), .cells 55 (Ty.enc tCell (lcellF (5, (fs.getD k tFrame.dflt).2.2.2.1) 5 p tr wy s).1)]))))))))))
  (.need (inR .i64 ((p.1.length : Int) - 1)) <|
  .need (inR .i64 ((p.1.length : Int) - 1)) <|
  .need (inR .i64 (if ((p.1.length : Int) - 1) < (fs.getD k tFrame.dflt).1 then ((p.1.length : Int) - 1) else (fs.getD k tFrame.dflt).1)) <|
  .need ((0 : Int) ≤ (if (if ((p.1.length : Int) - 1) < (fs.getD k tFrame.dflt).1 then ((p.1.length : Int) - 1) else (fs.getD k tFrame.dflt).1) > 0 then (if ((p.1.length : Int) - 1) < (fs.getD k tFrame.dflt).1 then ((p.1.length : Int) - 1) else (fs.getD k tFrame.dflt).1) else 0) ∧ ((if (if ((p.1.length : Int) - 1) < (fs.getD k tFrame.dflt).1 then ((p.1.length : Int) - 1) else (fs.getD k tFrame.dflt).1) > 0 then (if ((p.1.length : Int) - 1) < (fs.getD k tFrame.dflt).1 then ((p.1.length : Int) - 1) else (fs.getD k tFrame.dflt).1) else 0) : Int) < (p.1.length : Int)) <|
  .need ((Int.toNat (if (if ((p.1.length : Int) - 1) < (fs.getD k tFrame.dflt).1 then ((p.1.length : Int) - 1) else (fs.getD k tFrame.dflt).1) > 0 then (if ((p.1.length : Int) - 1) < (fs.getD k tFrame.dflt).1 then ((p.1.length : Int) - 1) else (fs.getD k tFrame.dflt).1) else 0)) < p.1.length) <|
  .callH 204 [.c (.ptr 0 0 0 0), .agg (Ty.enc tFrame (fs.getD k tFrame.dflt))] [.cells 123 (gJe2 p tr wy), .cells 40 (Ty.enc tState s), .map 3 tI tI j u, .cells 61 (Ty.enc tFrame (fs.getD k tFrame.dflt))] (.c (.bool (frameF (fs.getD k tFrame.dflt) p tr wy s))) [.cells 123 (gJe2 p tr wy), .cells 40 (Ty.enc tState s), .map 3 tI tI j u, .cells 61 (Ty.enc tFrame (fs.getD k tFrame.dflt))] [0, 1, 2] <|
  .ite ((!(frameF (fs.getD k tFrame.dflt) p tr wy s)))
  (.ret (.c (.lit false)) [.cells 123 (gJe2 p tr wy), .cells 40 (Ty.enc tState s), .map 3 tI tI j u, .cells 61 (Ty.enc tFrame (fs.getD k tFrame.dflt))])
  (.need (inR .i64 (0 - 1)) <|
   .call 117 [.c (.int .i64 (fs.getD k tFrame.dflt).2.2.1), .c (.int .i64 (-1)), .c (.int .i64 (0 - 1))] false (.c (.bool (swithinF (fs.getD k tFrame.dflt).2.2.1 (-1) (0 - 1)))) <|
   .ite ((!(swithinF (fs.getD k tFrame.dflt).2.2.1 (-1) (0 - 1))))
   (.ret (.c (.lit false)) [.cells 123 (gJe2 p tr wy), .cells 40 (Ty.enc tState s), .map 3 tI tI j u, .cells 61 (Ty.enc tFrame (fs.getD k tFrame.dflt))])
   (.ite ((!((p.1.getD (Int.toNat (if (if ((p.1.length : Int) - 1) < (fs.getD k tFrame.dflt).1 then ((p.1.length : Int) - 1) else (fs.getD k tFrame.dflt).1) > 0 then (if ((p.1.length : Int) - 1) < (fs.getD k tFrame.dflt).1 then ((p.1.length : Int) - 1) else (fs.getD k tFrame.dflt).1) else 0)) tFn.dflt).2.2.1 == (decide ((0 : Int) ≤ (fs.getD k tFrame.dflt).2.2.2.1)))))
   (.ret (.c (.lit false)) [.cells 123 (gJe2 p tr wy), .cells 40 (Ty.enc tState s), .map 3 tI tI j u, .cells 61 (Ty.enc tFrame (fs.getD k tFrame.dflt))])
   (.ite (decide ((fs.getD k tFrame.dflt).2.2.2.1 < (-1)))
    (.ret (.c (.lit false)) [.cells 123 (gJe2 p tr wy), .cells 40 (Ty.enc tState s), .map 3 tI tI j u, .cells 61 (Ty.enc tFrame (fs.getD k tFrame.dflt))])
    (.ite ((!(p.1.getD (Int.toNat (if (if ((p.1.length : Int) - 1) < (fs.getD k tFrame.dflt).1 then ((p.1.length : Int) - 1) else (fs.getD k tFrame.dflt).1) > 0 then (if ((p.1.length : Int) - 1) < (fs.getD k tFrame.dflt).1 then ((p.1.length : Int) - 1) else (fs.getD k tFrame.dflt).1) else 0)) tFn.dflt).2.2.1))
    (.need (inR .i64 (((k : Nat) : Int) + 1)) <|
     .stop (lp (bodyOf Tryz.f169) 0) (.c (.ptr 0 0 0 0) :: .c (.ro tFrame fs) :: J8 (gJe0 fs k)) [.cells 123 (gJe2 p tr wy), .cells 40 (Ty.enc tState s), .map 3 tI tI j u, .cells 61 (Ty.enc tFrame (fs.getD k tFrame.dflt))])
    (.callH 168 [.c (.ptr 0 0 0 0), .agg [.int .i64 5, .int .i64 (fs.getD k tFrame.dflt).2.2.2.1], .c (.int .i64 5)] [.cells 123 (gJe2 p tr wy), .cells 40 (Ty.enc tState s), .map 3 tI tI j u, .cells 61 (Ty.enc tFrame (fs.getD k tFrame.dflt))] (.tup [.agg (Ty.enc tCell (lcellF (5, (fs.getD k tFrame.dflt).2.2.2.1) 5 p tr wy s).1), .c (.bool (lcellF (5, (fs.getD k tFrame.dflt).2.2.2.1) 5 p tr wy s).2)]) [.cells 123 (gJe2 p tr wy), .cells 40 (Ty.enc tState s), .map 3 tI tI j u, .cells 61 (Ty.enc tFrame (fs.getD k tFrame.dflt))] [0, 1, 2] <|
     .ite (decide (((k : Nat) : Int) = 0))
     (.ret (.c (.lit false)) [.cells 123 (gJe2 p tr wy), .cells 40 (Ty.enc tState s), .map 3 tI tI j u, .cells 61 (Ty.enc tFrame (fs.getD k tFrame.dflt)), .cells 55 (Ty.enc tCell (lcellF (5, (fs.getD k tFrame.dflt).2.2.2.1) 5 p tr wy s).1)])
     (.ite ((!(lcellF (5, (fs.getD k tFrame.dflt).2.2.2.1) 5 p tr wy s).2))
     (.ret (.c (.lit false)) [.cells 123 (gJe2 p tr wy), .cells 40 (Ty.enc tState s), .map 3 tI tI j u, .cells 61 (Ty.enc tFrame (fs.getD k tFrame.dflt)), .cells 55 (Ty.enc tCell (lcellF (5, (fs.getD k tFrame.dflt).2.2.2.1) 5 p tr wy s).1)])
     (.ite ((!(decide ((lcellF (5, (fs.getD k tFrame.dflt).2.2.2.1) 5 p tr wy s).1.2.1 = 1))))
      (.ret (.c (.lit false)) [.cells 123 (gJe2 p tr wy), .cells 40 (Ty.enc tState s), .map 3 tI tI j u, .cells 61 (Ty.enc tFrame (fs.getD k tFrame.dflt)), .cells 55 (Ty.enc tCell (lcellF (5, (fs.getD k tFrame.dflt).2.2.2.1) 5 p tr wy s).1)])
      (.need (Tryz.prog = Tryz.prog ∧ MapLaw Tryz.prog 3 tI) <|
      .ite (decide (((u (fs.getD k tFrame.dflt).2.2.2.1).getD 0) = 1))
      (.ret (.c (.lit false)) [.cells 123 (gJe2 p tr wy), .cells 40 (Ty.enc tState s), .map 3 tI tI j u, .cells 61 (Ty.enc tFrame (fs.getD k tFrame.dflt)), .cells 55 (Ty.enc tCell (lcellF (5, (fs.getD k tFrame.dflt).2.2.2.1) 5 p tr wy s).1)])
      (.need (Tryz.prog = Tryz.prog ∧ MapLaw Tryz.prog 3 tI ∧ j < 140737488355328) <|
       .need (inR .i64 (((k : Nat) : Int) + 1)) <|
       .stop (lp (bodyOf Tryz.f169) 0) (.c (.ptr 0 0 0 0) :: .c (.ro tFrame fs) :: J8 (gJe0 fs k)) [.cells 123 (gJe2 p tr wy), .cells 40 (Ty.enc tState s), .map 3 tI tI (j + 1) (updM (kt := tI) u (fs.getD k tFrame.dflt).2.2.2.1 (1 : Int)), .cells 61 (Ty.enc tFrame (fs.getD k tFrame.dflt)), .cells 55 (Ty.enc tCell (lcellF (5, (fs.getD k tFrame.dflt).2.2.2.1) 5 p tr wy s).1)])))))))))))
 (.ret (.c (.lit true)) [.cells 123 (gJe2 p tr wy), .cells 40 (Ty.enc tState s), .map 3 tI tI j u])
theorem stack_l0 (fs : List EFrame) (p : EProg) (tr : List (List (List EVal))) (wy : List (List Bool)) (s : EState) (n : Nat) (m : Int → Option Int) (k : Nat) (j : Nat) (u : Int → Option Int) (hk : lookOk p tr wy) (hp : 0 < p.1.length ∧ p.1.length ≤ 9223372036854775807) (hf : fs.length ≤ 1000000 ∧ ∀ x ∈ fs, inR .i64 x.1 ∧ x.2.2.2.2.2.1.length ≤ 9223372036854775807) (hn : j + (fs.length - k) ≤ 1000000000) : RunN 3 Tryz.prog 169 (finQ Tryz.prog 3 (.c (.bool ((stGo fs p tr wy s k j u).1))) [.cells 123 (gJe2 p tr wy), .cells 40 (Ty.enc tState s), .map 3 tI tI (stGo fs p tr wy s k j u).2.1 (stGo fs p tr wy s k j u).2.2]) (lp (bodyOf Tryz.f169) 0) (.c (.ptr 0 0 0 0) :: .c (.ro tFrame fs) :: J8 (.junk :: .c (.ro tFrame fs) :: .c (.int .i64 (fs.length : Int)) :: .c (.int .i64 ((k : Nat) : Int)) :: J32 (J32 (J16 (J8 (J4 (J2 ([])))))))) [.cells 123 (gJe2 p tr wy), .cells 40 (Ty.enc tState s), .map 3 tI tI j u] :=
 Run.roundA ocMc stack_lv 3000 Tryz.func169 mixed (stack_l0_R fs p tr wy s n m k j u) (by kernel_rfl) (by
  unfold stack_l0_R
  refine g_iteD (fun h0 => ?_) (fun h0 => ?_)
  ·skip
   refine e_start (stStep.eq_1 fs p tr wy s k j u) ?_
   repeat' first
    | with_reducible refine e_D (fun _ => ?_) (fun _ => ?_)
    | with_reducible refine e_NB (fun _ => ?_) (fun _ => ?_)
    | with_reducible refine e_ND (fun _ => ?_) (fun _ => ?_)
    | refine e_need (by have hfx := i64_iff.1 (hf.2 _ (getD_mem (α := EFrame) (Ty.dflt tFrame) (by omega : k < fs.length))).1; first | omega | (constructor <;> omega) | rfl | exact ⟨rfl, intKey⟩ | exact ⟨rfl, intKey, by omega⟩ | (rw [i64_iff]; omega) | (rw [i64_iff]; split <;> omega) | (split <;> split <;> first | omega | (constructor <;> omega)) | (rw [i64_iff]; have := hf.2 _ (getD_mem (α := EFrame) (Ty.dflt tFrame) (by omega : Int.toNat (((k : Nat) : Int) - 1) < fs.length)); have := this.2; omega)) ?_
    | refine e_callH (AFunH.frameB [0, 1, 2] (frame_fun (fs.getD k tFrame.dflt) p tr wy s j u hk) rfl rfl rfl rfl rfl rfl rfl) ?_
    | refine e_call (swithin_fun (fs.getD k tFrame.dflt).2.2.1 (-1) (((fs.getD (Int.toNat (((k : Nat) : Int) - 1)) tFrame.dflt).2.2.2.2.2.1.length : Int) - 1)) (fun h => nomatch h) ?_
    | refine e_callH (AFunH.frameB [0, 1, 2] (lcell_fun (5, (fs.getD k tFrame.dflt).2.2.2.1) 5 p tr wy s j u) rfl rfl rfl rfl rfl rfl rfl) ?_
    | refine e_call (swithin_fun (fs.getD k tFrame.dflt).2.2.1 (-1) (0 - 1)) (fun h => nomatch h) ?_
    | exact fun hE => g_fin (g_end [0, 1, 2] (kk rfl) (by decide) (by rw [stGo_none (by omega) hE]; first | exact leAV.refl _ | rfl | (repeat' first | exact leC.refl _ | exact trivial | rfl | constructor)) (by first | exact leHs.refl _ | (rw [stGo_none (by omega) hE]; exact leHs.refl _)))
    | (intro hE; refine g_stop (RunN.keep [0, 1, 2] (true :: true :: F8 (false :: true :: true :: true :: F32 (F32 (F16 (F8 (F4 (F2 ([])))))))) (kk rfl) (by decide) rfl rfl ?_); rw [stGo_some (by omega) hE]; exact stack_l0 fs p tr wy s n m (k + 1) _ _ hk hp hf (by omega))
  ·skip
   refine g_fin ?_
   exact g_end [0, 1, 2] (kk rfl) (by decide) ((show (true : Bool) = (stGo fs p tr wy s k j u).1 from by first | (rw [stGo_end (by omega)]; done) | (rw [stGo_end (by omega)]; exact leB.refl _))) ⟨leB.refl _, leB.refl _, (by first | (rw [stGo_end (by omega)]; done) | (rw [stGo_end (by omega)]; exact leB.refl _)), trivial⟩
  )
 termination_by fs.length - k
 decreasing_by all_goals omega
theorem stack_fun (fs : List EFrame) (p : EProg) (tr : List (List (List EVal))) (wy : List (List Bool)) (s : EState) (n : Nat) (m : Int → Option Int) (hk : lookOk p tr wy) (hp : 0 < p.1.length) (hf : fs.length ≤ 1000000) (hn : n + fs.length ≤ 1000000000) : AFunH Tryz.prog 169 [.c (.ptr 0 0 0 0), .c (.ro tFrame fs)] [.cells 123 (gJe2 p tr wy), .cells 40 (Ty.enc tState s), .map 3 tI tI n m] (.c (.bool ((stGo fs p tr wy s 0 n m).1))) [.cells 123 (gJe2 p tr wy), .cells 40 (Ty.enc tState s), .map 3 tI tI (stGo fs p tr wy s 0 n m).2.1 (stGo fs p tr wy s 0 n m).2.2] (List.range 3) :=
 AFunH.ofL ocMc stack_lv 3000 Tryz.func169 mixed rfl (by decide) (Nat.le_of_ble_eq_true rfl) rfl rfl (Nat.le_of_ble_eq_true rfl) (stack_T fs p tr wy s n m) (by kernel_rfl) fun hF => by
  have q1 := hF.ro (i := 1) rfl
  have q2 := (pfns_le (b := 0) hF rfl).1
  have hf2 : ∀ x ∈ fs, inR .i64 x.1 ∧ x.2.2.2.2.2.1.length ≤ 9223372036854775807 := fun x hx => ⟨(q1.2 x hx).1, (q1.2 x hx).2.2.2.2.2.1.1⟩
  unfold stack_T
  refine g_stop (RunN.keep [0, 1, 2] (true :: true :: F8 (false :: true :: true :: true :: F32 (F32 (F16 (F8 (F4 (F2 ([])))))))) (kk rfl) (by decide) rfl rfl ?_)
  exact stack_l0 fs p tr wy s n m 0 n m hk ⟨hp, q2⟩ ⟨hf, hf2⟩ (by omega)

end Go.Proofs.YtkonkblfckhcbaaGreatDoor
namespace Go.Proofs.YtkonkblfckhcbaaGreatDoor
set_option maxHeartbeats 4000000
set_option linter.unusedVariables false
set_option linter.unusedSimpArgs false
set_option maxRecDepth 100000
def StQ (n : Nat) (o : Option (Nat × (Int → Option Int))) : Prop := ∀ a, o = some a → a.1 ≤ n + 1
theorem StQ.ite {n : Nat} {c : Prop} [Decidable c] {x y : Option (Nat × (Int → Option Int))} (hx : StQ n x) (hy : StQ n y) : StQ n (if c then x else y) := by
 split
 ·exact hx
 ·exact hy
theorem stStep_q (fs : List EFrame) (p : EProg) (tr : List (List (List EVal))) (wy : List (List Bool)) (s : EState) (k n : Nat) (m : Int → Option Int) : StQ n (stStep fs p tr wy s k n m) := by
 unfold stStep
 repeat' apply StQ.ite
 all_goals (intro a h; first | (cases h; done) | (injection h with h; subst h; simp))
theorem stStep_n {fs : List EFrame} {p : EProg} {tr : List (List (List EVal))} {wy : List (List Bool)} {s : EState} {k n : Nat} {m : Int → Option Int} {a : Nat × (Int → Option Int)} (h : stStep fs p tr wy s k n m = some a) : a.1 ≤ n + 1 := stStep_q fs p tr wy s k n m a h
theorem stGo_n (fs : List EFrame) (p : EProg) (tr : List (List (List EVal))) (wy : List (List Bool)) (s : EState) : ∀ (d k n : Nat) (m : Int → Option Int), fs.length - k = d → (stGo fs p tr wy s k n m).2.1 ≤ n + d
 | 0, k, n, m, h => by rw [stGo_end (by omega)]; exact Nat.le_refl _
 | d + 1, k, n, m, h => by
  cases hs : stStep fs p tr wy s k n m with
  | none => rw [stGo_none (by omega) hs]; simp only; omega
  | some a =>
   rw [stGo_some (by omega) hs]
   have := stGo_n fs p tr wy s d (k + 1) a.1 a.2 (by omega)
   have := stStep_n hs
   omega
def thrF (t : EThread) (p : EProg) (tr : List (List (List EVal))) (wy : List (List Bool)) (s : EState) (n : Nat) (m : Int → Option Int) : Bool × Nat × (Int → Option Int) :=
 if t.2.1 = 3 then
  if (true == (decide ((t.1.length : Int) = 0))) = true then
   if (FitsF t.2.2.2 s) = true then
    if (swithinF t.2.1 0 4) = true then
     if t.2.1 = 1 then
      if (lcellF (5, t.2.2.1) 6 p tr wy s).2 = true then
       ((stGo t.1 p tr wy s 0 n m).1, (stGo t.1 p tr wy s 0 n m).2.1, (stGo t.1 p tr wy s 0 n m).2.2)
      else
       (false, n, m)
     else
      if t.2.1 = 2 then
       if (swithinF t.2.2.1 0 ((s.2.2.2.1.length : Int) - 1)) = true then
        ((stGo t.1 p tr wy s 0 n m).1, (stGo t.1 p tr wy s 0 n m).2.1, (stGo t.1 p tr wy s 0 n m).2.2)
       else
        (false, n, m)
      else
       if t.2.2.1 = 0 then
        ((stGo t.1 p tr wy s 0 n m).1, (stGo t.1 p tr wy s 0 n m).2.1, (stGo t.1 p tr wy s 0 n m).2.2)
       else
        (false, n, m)
    else
     (false, n, m)
   else
    (false, n, m)
  else
   (false, n, m)
 else
  if ((decide (t.2.1 = 4)) == (decide ((t.1.length : Int) = 0))) = true then
   if t.2.1 = 4 then
    if (FitsF t.2.2.2 s) = true then
     if (swithinF t.2.1 0 4) = true then
      if t.2.1 = 1 then
       if (lcellF (5, t.2.2.1) 6 p tr wy s).2 = true then
        ((stGo t.1 p tr wy s 0 n m).1, (stGo t.1 p tr wy s 0 n m).2.1, (stGo t.1 p tr wy s 0 n m).2.2)
       else
        (false, n, m)
      else
       if t.2.1 = 2 then
        if (swithinF t.2.2.1 0 ((s.2.2.2.1.length : Int) - 1)) = true then
         ((stGo t.1 p tr wy s 0 n m).1, (stGo t.1 p tr wy s 0 n m).2.1, (stGo t.1 p tr wy s 0 n m).2.2)
        else
         (false, n, m)
       else
        if t.2.2.1 = 0 then
         ((stGo t.1 p tr wy s 0 n m).1, (stGo t.1 p tr wy s 0 n m).2.1, (stGo t.1 p tr wy s 0 n m).2.2)
        else
         (false, n, m)
     else
      (false, n, m)
    else
     (false, n, m)
   else
    if (decide (t.2.2.2.1 = 0) && (decide (t.2.2.2.2 = 0) && true)) = true then
     if (FitsF t.2.2.2 s) = true then
      if (swithinF t.2.1 0 4) = true then
       if t.2.1 = 1 then
        if (lcellF (5, t.2.2.1) 6 p tr wy s).2 = true then
         ((stGo t.1 p tr wy s 0 n m).1, (stGo t.1 p tr wy s 0 n m).2.1, (stGo t.1 p tr wy s 0 n m).2.2)
        else
         (false, n, m)
       else
        if t.2.1 = 2 then
         if (swithinF t.2.2.1 0 ((s.2.2.2.1.length : Int) - 1)) = true then
          ((stGo t.1 p tr wy s 0 n m).1, (stGo t.1 p tr wy s 0 n m).2.1, (stGo t.1 p tr wy s 0 n m).2.2)
         else
          (false, n, m)
        else
         if t.2.2.1 = 0 then
          ((stGo t.1 p tr wy s 0 n m).1, (stGo t.1 p tr wy s 0 n m).2.1, (stGo t.1 p tr wy s 0 n m).2.2)
         else
          (false, n, m)
      else
       (false, n, m)
     else
      (false, n, m)
    else
     (false, n, m)
  else
   (false, n, m)
noncomputable def ocNa : Orc where
 pure := fun f args => match f, args with
  | 117, [a0, a1, a2] => match dA tI a0, dA tI a1, dA tI a2 with
   | some x0, some x1, some x2 => some (.c (.bool (swithinF x0 x1 x2)))
   | _, _, _ => none
  | _, _ => none
 heap := fun f args H => match f, args with
  | 167, [.one (.c (.ptr b0 0 0 0)), a1] => (match cellsAs 40 H[b0]? with
   | some c0 => (match dA tVal a1, dCs tState c0 with
    | some x1, some y0_0 => hres [b0] H (.c (.bool (FitsF x1 y0_0))) [.cells 40 (Ty.enc tState y0_0)]
    | _, _ => none)
   | _ => none)
  | 168, [.one (.c (.ptr b0 0 0 0)), a1, a2] => (match cellsAs 123 H[b0]? with
   | some [c0_0_0, c0_0_1, c0_0_2, .ptr b1 0 0 0, c0_2, c0_3, .map b2] => (match cellsAs 40 H[b1]? with
   | some c1 => (match dA tVal a1, dA tI a2, dCs tProg [c0_0_0, c0_0_1, c0_0_2], dC (.slice (.slice (.slice tVal))) c0_2, dC (.slice (.slice .bool)) c0_3, dCs tState c1, mapAs 3 tI tI H[b2]? with
    | some x1, some x2, some y0_0, some y0_2, some y0_3, some y1_0, some (n2, y2) => hres [b0, b1, b2] H (.tup [.agg (Ty.enc tCell ((lcellF x1 x2 y0_0 y0_2 y0_3 y1_0).1)), .c (.bool ((lcellF x1 x2 y0_0 y0_2 y0_3 y1_0).2))]) [.cells 123 [.ro tFn y0_0.1, .ro tVal y0_0.2.1, .ro .str y0_0.2.2, .ptr 1 0 0 0, .ro (.slice (.slice tVal)) y0_2, .ro (.slice .bool) y0_3, .map 2], .cells 40 (Ty.enc tState y1_0), .map 3 tI tI n2 y2]
    | _, _, _, _, _, _, _ => none)
   | _ => none)
   | _ => none)
  | 169, [.one (.c (.ptr b0 0 0 0)), a1] => (match cellsAs 123 H[b0]? with
   | some [c0_0_0, c0_0_1, c0_0_2, .ptr b1 0 0 0, c0_2, c0_3, .map b2] => (match cellsAs 40 H[b1]? with
   | some c1 => (match dA (.slice tFrame) a1, dCs tProg [c0_0_0, c0_0_1, c0_0_2], dC (.slice (.slice (.slice tVal))) c0_2, dC (.slice (.slice .bool)) c0_3, dCs tState c1, mapAs 3 tI tI H[b2]? with
    | some x1, some y0_0, some y0_2, some y0_3, some y1_0, some (n2, y2) => hres [b0, b1, b2] H (.c (.bool ((stGo x1 y0_0 y0_2 y0_3 y1_0 0 n2 y2).1))) [.cells 123 [.ro tFn y0_0.1, .ro tVal y0_0.2.1, .ro .str y0_0.2.2, .ptr 1 0 0 0, .ro (.slice (.slice tVal)) y0_2, .ro (.slice .bool) y0_3, .map 2], .cells 40 (Ty.enc tState y1_0), .map 3 tI tI (stGo x1 y0_0 y0_2 y0_3 y1_0 0 n2 y2).2.1 (stGo x1 y0_0 y0_2 y0_3 y1_0 0 n2 y2).2.2]
    | _, _, _, _, _, _ => none)
   | _ => none)
   | _ => none)
  | _, _ => none
def thr_lv : LV := ⟨([]), []⟩
abbrev gJf0 (p : EProg) (tr : List (List (List EVal))) (wy : List (List Bool)) : List CV := [.ro tFn p.1, .ro tVal p.2.1, .ro .str p.2.2, .ptr 1 0 0 0, .ro (.slice (.slice tVal)) tr, .ro (.slice .bool) wy, .map 2]
noncomputable def thr_T (t : EThread) (p : EProg) (tr : List (List (List EVal))) (wy : List (List Bool)) (s : EState) (n : Nat) (m : Int → Option Int) : Tree :=
 .ite (decide (t.2.1 = 3))
 (.ite ((!(true == (decide ((t.1.length : Int) = 0)))))
  (.ret (.c (.lit false)) [.cells 123 (gJf0 p tr wy), .cells 40 (Ty.enc tState s), .map 3 tI tI n m, .cells 57 (Ty.enc tThread t)])
  (.callH 167 [.c (.ptr 1 0 0 0), .agg (Ty.enc tVal t.2.2.2)] [.cells 123 (gJf0 p tr wy), .cells 40 (Ty.enc tState s), .map 3 tI tI n m, .cells 57 (Ty.enc tThread t)] (.c (.bool (FitsF t.2.2.2 s))) [.cells 123 (gJf0 p tr wy), .cells 40 (Ty.enc tState s), .map 3 tI tI n m, .cells 57 (Ty.enc tThread t)] [1] <|
  .ite ((!(FitsF t.2.2.2 s)))
  (.ret (.c (.lit false)) [.cells 123 (gJf0 p tr wy), .cells 40 (Ty.enc tState s), .map 3 tI tI n m, .cells 57 (Ty.enc tThread t)])
  (.call 117 [.c (.int .i64 t.2.1), .c (.int .i64 0), .c (.int .i64 4)] false (.c (.bool (swithinF t.2.1 0 4))) <|
   .ite ((!(swithinF t.2.1 0 4)))
   (.ret (.c (.lit false)) [.cells 123 (gJf0 p tr wy), .cells 40 (Ty.enc tState s), .map 3 tI tI n m, .cells 57 (Ty.enc tThread t)])
   (.ite (decide (t.2.1 = 1))
   (.callH 168 [.c (.ptr 0 0 0 0), .agg [.int .i64 5, .int .i64 t.2.2.1], .c (.int .i64 6)] [.cells 123 (gJf0 p tr wy), .cells 40 (Ty.enc tState s), .map 3 tI tI n m, .cells 57 (Ty.enc tThread t)] (.tup [.agg (Ty.enc tCell (lcellF (5, t.2.2.1) 6 p tr wy s).1), .c (.bool (lcellF (5, t.2.2.1) 6 p tr wy s).2)]) [.cells 123 (gJf0 p tr wy), .cells 40 (Ty.enc tState s), .map 3 tI tI n m, .cells 57 (Ty.enc tThread t)] [0, 1, 2] <|
    .ite ((!(lcellF (5, t.2.2.1) 6 p tr wy s).2))
    (.ret (.c (.lit false)) [.cells 123 (gJf0 p tr wy), .cells 40 (Ty.enc tState s), .map 3 tI tI n m, .cells 57 (Ty.enc tThread t), .cells 55 (Ty.enc tCell (lcellF (5, t.2.2.1) 6 p tr wy s).1)])
    (.callH 169 [.c (.ptr 0 0 0 0), .c (.ro tFrame t.1)] [.cells 123 (gJf0 p tr wy), .cells 40 (Ty.enc tState s), .map 3 tI tI n m, .cells 57 (Ty.enc tThread t), .cells 55 (Ty.enc tCell (lcellF (5, t.2.2.1) 6 p tr wy s).1)] (.c (.bool (stGo t.1 p tr wy s 0 n m).1)) [.cells 123 (gJf0 p tr wy), .cells 40 (Ty.enc tState s), .map 3 tI tI (stGo t.1 p tr wy s 0 n m).2.1 (stGo t.1 p tr wy s 0 n m).2.2, .cells 57 (Ty.enc tThread t), .cells 55 (Ty.enc tCell (lcellF (5, t.2.2.1) 6 p tr wy s).1)] [0, 1, 2] <|
    .ret (.c (.bool (stGo t.1 p tr wy s 0 n m).1)) [.cells 123 (gJf0 p tr wy), .cells 40 (Ty.enc tState s), .map 3 tI tI (stGo t.1 p tr wy s 0 n m).2.1 (stGo t.1 p tr wy s 0 n m).2.2, .cells 57 (Ty.enc tThread t), .cells 55 (Ty.enc tCell (lcellF (5, t.2.2.1) 6 p tr wy s).1)]))
   (.ite (decide (t.2.1 = 2))
    (.need (inR .i64 ((s.2.2.2.1.length : Int) - 1)) <|
    .call 117 [.c (.int .i64 t.2.2.1), .c (.int .i64 0), .c (.int .i64 ((s.2.2.2.1.length : Int) - 1))] false (.c (.bool (swithinF t.2.2.1 0 ((s.2.2.2.1.length : Int) - 1)))) <|
    .ite ((!(swithinF t.2.2.1 0 ((s.2.2.2.1.length : Int) - 1))))
    (.ret (.c (.lit false)) [.cells 123 (gJf0 p tr wy), .cells 40 (Ty.enc tState s), .map 3 tI tI n m, .cells 57 (Ty.enc tThread t)])
    (.callH 169 [.c (.ptr 0 0 0 0), .c (.ro tFrame t.1)] [.cells 123 (gJf0 p tr wy), .cells 40 (Ty.enc tState s), .map 3 tI tI n m, .cells 57 (Ty.enc tThread t)] (.c (.bool (stGo t.1 p tr wy s 0 n m).1)) [.cells 123 (gJf0 p tr wy), .cells 40 (Ty.enc tState s), .map 3 tI tI (stGo t.1 p tr wy s 0 n m).2.1 (stGo t.1 p tr wy s 0 n m).2.2, .cells 57 (Ty.enc tThread t)] [0, 1, 2] <|
     .ret (.c (.bool (stGo t.1 p tr wy s 0 n m).1)) [.cells 123 (gJf0 p tr wy), .cells 40 (Ty.enc tState s), .map 3 tI tI (stGo t.1 p tr wy s 0 n m).2.1 (stGo t.1 p tr wy s 0 n m).2.2, .cells 57 (Ty.enc tThread t)]))
    (.ite ((!(decide (t.2.2.1 = 0))))
    (.ret (.c (.lit false)) [.cells 123 (gJf0 p tr wy), .cells 40 (Ty.enc tState s), .map 3 tI tI n m, .cells 57 (Ty.enc tThread t)])
    (.callH 169 [.c (.ptr 0 0 0 0), .c (.ro tFrame t.1)] [.cells 123 (gJf0 p tr wy), .cells 40 (Ty.enc tState s), .map 3 tI tI n m, .cells 57 (Ty.enc tThread t)] (.c (.bool (stGo t.1 p tr wy s 0 n m).1)) [.cells 123 (gJf0 p tr wy), .cells 40 (Ty.enc tState s), .map 3 tI tI (stGo t.1 p tr wy s 0 n m).2.1 (stGo t.1 p tr wy s 0 n m).2.2, .cells 57 (Ty.enc tThread t)] [0, 1, 2] <|
     .ret (.c (.bool (stGo t.1 p tr wy s 0 n m).1)) [.cells 123 (gJf0 p tr wy), .cells 40 (Ty.enc tState s), .map 3 tI tI (stGo t.1 p tr wy s 0 n m).2.1 (stGo t.1 p tr wy s 0 n m).2.2, .cells 57 (Ty.enc tThread t)])))))))
 (.ite ((!((decide (t.2.1 = 4)) == (decide ((t.1.length : Int) = 0)))))
  (.ret (.c (.lit false)) [.cells 123 (gJf0 p tr wy), .cells 40 (Ty.enc tState s), .map 3 tI tI n m, .cells 57 (Ty.enc tThread t)])
  (.ite ((!(decide (t.2.1 = 4))))
  (.ite ((!(decide (t.2.2.2.1 = 0) && (decide (t.2.2.2.2 = 0) && true))))
   (.ret (.c (.lit false)) [.cells 123 (gJf0 p tr wy), .cells 40 (Ty.enc tState s), .map 3 tI tI n m, .cells 57 (Ty.enc tThread t)])
   (.callH 167 [.c (.ptr 1 0 0 0), .agg (Ty.enc tVal t.2.2.2)] [.cells 123 (gJf0 p tr wy), .cells 40 (Ty.enc tState s), .map 3 tI tI n m, .cells 57 (Ty.enc tThread t)] (.c (.bool (FitsF t.2.2.2 s))) [.cells 123 (gJf0 p tr wy), .cells 40 (Ty.enc tState s), .map 3 tI tI n m, .cells 57 (Ty.enc tThread t)] [1] <|
   .ite ((!(FitsF t.2.2.2 s)))
   (.ret (.c (.lit false)) [.cells 123 (gJf0 p tr wy), .cells 40 (Ty.enc tState s), .map 3 tI tI n m, .cells 57 (Ty.enc tThread t)])
   (.call 117 [.c (.int .i64 t.2.1), .c (.int .i64 0), .c (.int .i64 4)] false (.c (.bool (swithinF t.2.1 0 4))) <|
    .ite ((!(swithinF t.2.1 0 4)))
    (.ret (.c (.lit false)) [.cells 123 (gJf0 p tr wy), .cells 40 (Ty.enc tState s), .map 3 tI tI n m, .cells 57 (Ty.enc tThread t)])
    (.ite (decide (t.2.1 = 1))
    (.callH 168 [.c (.ptr 0 0 0 0), .agg [.int .i64 5, .int .i64 t.2.2.1], .c (.int .i64 6)] [.cells 123 (gJf0 p tr wy), .cells 40 (Ty.enc tState s), .map 3 tI tI n m, .cells 57 (Ty.enc tThread t)] (.tup [.agg (Ty.enc tCell (lcellF (5, t.2.2.1) 6 p tr wy s).1), .c (.bool (lcellF (5, t.2.2.1) 6 p tr wy s).2)]) [.cells 123 (gJf0 p tr wy), .cells 40 (Ty.enc tState s), .map 3 tI tI n m, .cells 57 (Ty.enc tThread t)] [0, 1, 2] <|
     .ite ((!(lcellF (5, t.2.2.1) 6 p tr wy s).2))
     (.ret (.c (.lit false)) [.cells 123 (gJf0 p tr wy), .cells 40 (Ty.enc tState s), .map 3 tI tI n m, .cells 57 (Ty.enc tThread t), .cells 55 (Ty.enc tCell (lcellF (5, t.2.2.1) 6 p tr wy s).1)])
     (.callH 169 [.c (.ptr 0 0 0 0), .c (.ro tFrame t.1)] [.cells 123 (gJf0 p tr wy), .cells 40 (Ty.enc tState s), .map 3 tI tI n m, .cells 57 (Ty.enc tThread t), .cells 55 (Ty.enc tCell (lcellF (5, t.2.2.1) 6 p tr wy s).1)] (.c (.bool (stGo t.1 p tr wy s 0 n m).1)) [.cells 123 (gJf0 p tr wy), .cells 40 (Ty.enc tState s), .map 3 tI tI (stGo t.1 p tr wy s 0 n m).2.1 (stGo t.1 p tr wy s 0 n m).2.2, .cells 57 (Ty.enc tThread t), .cells 55 (Ty.enc tCell (lcellF (5, t.2.2.1) 6 p tr wy s).1)] [0, 1, 2] <|
     .ret (.c (.bool (stGo t.1 p tr wy s 0 n m).1)) [.cells 123 (gJf0 p tr wy), .cells 40 (Ty.enc tState s), .map 3 tI tI (stGo t.1 p tr wy s 0 n m).2.1 (stGo t.1 p tr wy s 0 n m).2.2, .cells 57 (Ty.enc tThread t), .cells 55 (Ty.enc tCell (lcellF (5, t.2.2.1) 6 p tr wy s).1)]))
    (.ite (decide (t.2.1 = 2))
     (.need (inR .i64 ((s.2.2.2.1.length : Int) - 1)) <|
     .call 117 [.c (.int .i64 t.2.2.1), .c (.int .i64 0), .c (.int .i64 ((s.2.2.2.1.length : Int) - 1))] false (.c (.bool (swithinF t.2.2.1 0 ((s.2.2.2.1.length : Int) - 1)))) <|
     .ite ((!(swithinF t.2.2.1 0 ((s.2.2.2.1.length : Int) - 1))))
     (.ret (.c (.lit false)) [.cells 123 (gJf0 p tr wy), .cells 40 (Ty.enc tState s), .map 3 tI tI n m, .cells 57 (Ty.enc tThread t)])
     (.callH 169 [.c (.ptr 0 0 0 0), .c (.ro tFrame t.1)] [.cells 123 (gJf0 p tr wy), .cells 40 (Ty.enc tState s), .map 3 tI tI n m, .cells 57 (Ty.enc tThread t)] (.c (.bool (stGo t.1 p tr wy s 0 n m).1)) [.cells 123 (gJf0 p tr wy), .cells 40 (Ty.enc tState s), .map 3 tI tI (stGo t.1 p tr wy s 0 n m).2.1 (stGo t.1 p tr wy s 0 n m).2.2, .cells 57 (Ty.enc tThread t)] [0, 1, 2] <|
      .ret (.c (.bool (stGo t.1 p tr wy s 0 n m).1)) [.cells 123 (gJf0 p tr wy), .cells 40 (Ty.enc tState s), .map 3 tI tI (stGo t.1 p tr wy s 0 n m).2.1 (stGo t.1 p tr wy s 0 n m).2.2, .cells 57 (Ty.enc tThread t)]))
     (.ite ((!(decide (t.2.2.1 = 0))))
     (.ret (.c (.lit false)) [.cells 123 (gJf0 p tr wy), .cells 40 (Ty.enc tState s), .map 3 tI tI n m, .cells 57 (Ty.enc tThread t)])
     (.callH 169 [.c (.ptr 0 0 0 0), .c (.ro tFrame t.1)] [.cells 123 (gJf0 p tr wy), .cells 40 (Ty.enc tState s), .map 3 tI tI n m, .cells 57 (Ty.enc tThread t)] (.c (.bool (stGo t.1 p tr wy s 0 n m).1)) [.cells 123 (gJf0 p tr wy), .cells 40 (Ty.enc tState s), .map 3 tI tI (stGo t.1 p tr wy s 0 n m).2.1 (stGo t.1 p tr wy s 0 n m).2.2, .cells 57 (Ty.enc tThread t)] [0, 1, 2] <|
      .ret (.c (.bool (stGo t.1 p tr wy s 0 n m).1)) [.cells 123 (gJf0 p tr wy), .cells 40 (Ty.enc tState s), .map 3 tI tI (stGo t.1 p tr wy s 0 n m).2.1 (stGo t.1 p tr wy s 0 n m).2.2, .cells 57 (Ty.enc tThread t)])))))))
  (.callH 167 [.c (.ptr 1 0 0 0), .agg (Ty.enc tVal t.2.2.2)] [.cells 123 (gJf0 p tr wy), .cells 40 (Ty.enc tState s), .map 3 tI tI n m, .cells 57 (Ty.enc tThread t)] (.c (.bool (FitsF t.2.2.2 s))) [.cells 123 (gJf0 p tr wy), .cells 40 (Ty.enc tState s), .map 3 tI tI n m, .cells 57 (Ty.enc tThread t)] [1] <|
   .ite ((!(FitsF t.2.2.2 s)))
   (.ret (.c (.lit false)) [.cells 123 (gJf0 p tr wy), .cells 40 (Ty.enc tState s), .map 3 tI tI n m, .cells 57 (Ty.enc tThread t)])
   (.call 117 [.c (.int .i64 t.2.1), .c (.int .i64 0), .c (.int .i64 4)] false (.c (.bool (swithinF t.2.1 0 4))) <|
   .ite ((!(swithinF t.2.1 0 4)))
   (.ret (.c (.lit false)) [.cells 123 (gJf0 p tr wy), .cells 40 (Ty.enc tState s), .map 3 tI tI n m, .cells 57 (Ty.enc tThread t)])
   (.ite (decide (t.2.1 = 1))
    (.callH 168 [.c (.ptr 0 0 0 0), .agg [.int .i64 5, .int .i64 t.2.2.1], .c (.int .i64 6)] [.cells 123 (gJf0 p tr wy), .cells 40 (Ty.enc tState s), .map 3 tI tI n m, .cells 57 (Ty.enc tThread t)] (.tup [.agg (Ty.enc tCell (lcellF (5, t.2.2.1) 6 p tr wy s).1), .c (.bool (lcellF (5, t.2.2.1) 6 p tr wy s).2)]) [.cells 123 (gJf0 p tr wy), .cells 40 (Ty.enc tState s), .map 3 tI tI n m, .cells 57 (Ty.enc tThread t)] [0, 1, 2] <|
    .ite ((!(lcellF (5, t.2.2.1) 6 p tr wy s).2))
    (.ret (.c (.lit false)) [.cells 123 (gJf0 p tr wy), .cells 40 (Ty.enc tState s), .map 3 tI tI n m, .cells 57 (Ty.enc tThread t), .cells 55 (Ty.enc tCell (lcellF (5, t.2.2.1) 6 p tr wy s).1)])
    (.callH 169 [.c (.ptr 0 0 0 0), .c (.ro tFrame t.1)] [.cells 123 (gJf0 p tr wy), .cells 40 (Ty.enc tState s), .map 3 tI tI n m, .cells 57 (Ty.enc tThread t), .cells 55 (Ty.enc tCell (lcellF (5, t.2.2.1) 6 p tr wy s).1)] (.c (.bool (stGo t.1 p tr wy s 0 n m).1)) [.cells 123 (gJf0 p tr wy), .cells 40 (Ty.enc tState s), .map 3 tI tI (stGo t.1 p tr wy s 0 n m).2.1 (stGo t.1 p tr wy s 0 n m).2.2, .cells 57 (Ty.enc tThread t), .cells 55 (Ty.enc tCell (lcellF (5, t.2.2.1) 6 p tr wy s).1)] [0, 1, 2] <|
     .ret (.c (.bool (stGo t.1 p tr wy s 0 n m).1)) [.cells 123 (gJf0 p tr wy), .cells 40 (Ty.enc tState s), .map 3 tI tI (stGo t.1 p tr wy s 0 n m).2.1 (stGo t.1 p tr wy s 0 n m).2.2, .cells 57 (Ty.enc tThread t), .cells 55 (Ty.enc tCell (lcellF (5, t.2.2.1) 6 p tr wy s).1)]))
    (.ite (decide (t.2.1 = 2))
    (.need (inR .i64 ((s.2.2.2.1.length : Int) - 1)) <|
     .call 117 [.c (.int .i64 t.2.2.1), .c (.int .i64 0), .c (.int .i64 ((s.2.2.2.1.length : Int) - 1))] false (.c (.bool (swithinF t.2.2.1 0 ((s.2.2.2.1.length : Int) - 1)))) <|
     .ite ((!(swithinF t.2.2.1 0 ((s.2.2.2.1.length : Int) - 1))))
     (.ret (.c (.lit false)) [.cells 123 (gJf0 p tr wy), .cells 40 (Ty.enc tState s), .map 3 tI tI n m, .cells 57 (Ty.enc tThread t)])
     (.callH 169 [.c (.ptr 0 0 0 0), .c (.ro tFrame t.1)] [.cells 123 (gJf0 p tr wy), .cells 40 (Ty.enc tState s), .map 3 tI tI n m, .cells 57 (Ty.enc tThread t)] (.c (.bool (stGo t.1 p tr wy s 0 n m).1)) [.cells 123 (gJf0 p tr wy), .cells 40 (Ty.enc tState s), .map 3 tI tI (stGo t.1 p tr wy s 0 n m).2.1 (stGo t.1 p tr wy s 0 n m).2.2, .cells 57 (Ty.enc tThread t)] [0, 1, 2] <|
     .ret (.c (.bool (stGo t.1 p tr wy s 0 n m).1)) [.cells 123 (gJf0 p tr wy), .cells 40 (Ty.enc tState s), .map 3 tI tI (stGo t.1 p tr wy s 0 n m).2.1 (stGo t.1 p tr wy s 0 n m).2.2, .cells 57 (Ty.enc tThread t)]))
    (.ite ((!(decide (t.2.2.1 = 0))))
     (.ret (.c (.lit false)) [.cells 123 (gJf0 p tr wy), .cells 40 (Ty.enc tState s), .map 3 tI tI n m, .cells 57 (Ty.enc tThread t)])
     (.callH 169 [.c (.ptr 0 0 0 0), .c (.ro tFrame t.1)] [.cells 123 (gJf0 p tr wy), .cells 40 (Ty.enc tState s), .map 3 tI tI n m, .cells 57 (Ty.enc tThread t)] (.c (.bool (stGo t.1 p tr wy s 0 n m).1)) [.cells 123 (gJf0 p tr wy), .cells 40 (Ty.enc tState s), .map 3 tI tI (stGo t.1 p tr wy s 0 n m).2.1 (stGo t.1 p tr wy s 0 n m).2.2, .cells 57 (Ty.enc tThread t)] [0, 1, 2] <|
     .ret (.c (.bool (stGo t.1 p tr wy s 0 n m).1)) [.cells 123 (gJf0 p tr wy), .cells 40 (Ty.enc tState s), .map 3 tI tI (stGo t.1 p tr wy s 0 n m).2.1 (stGo t.1 p tr wy s 0 n m).2.2, .cells 57 (Ty.enc tThread t)]))))))))
theorem thr_fun (t : EThread) (p : EProg) (tr : List (List (List EVal))) (wy : List (List Bool)) (s : EState) (n : Nat) (m : Int → Option Int)  (hk : lookOk p tr wy) (hp : 0 < p.1.length) (hf : t.1.length ≤ 1000000) (hn : n + t.1.length ≤ 1000000000) : AFunH Tryz.prog 121 [.c (.ptr 0 0 0 0), .agg (tThread.enc t)] [.cells 123 (gJf0 p tr wy), .cells 40 (Ty.enc tState s), .map 3 tI tI n m] (.c (.bool ((thrF t p tr wy s n m).1))) [.cells 123 (gJf0 p tr wy), .cells 40 (Ty.enc tState s), .map 3 tI tI (thrF t p tr wy s n m).2.1 (thrF t p tr wy s n m).2.2] (List.range 3) :=
 AFunH.ofL ocNa thr_lv 3000 Tryz.func121 mixed rfl (by decide) (Nat.le_of_ble_eq_true rfl) rfl rfl (Nat.le_of_ble_eq_true rfl) (thr_T t p tr wy s n m) (by kernel_rfl) fun hF => by
  have q1 := (hF.blk (b := 1) (t := tState) (x := s) rfl).2.2.2.1.1
  unfold thr_T
  refine e_start (thrF.eq_1 t p tr wy s n m) ?_
  repeat' first
   | with_reducible refine e_D (fun _ => ?_) (fun _ => ?_)
   | with_reducible refine e_NB (fun _ => ?_) (fun _ => ?_)
   | with_reducible refine e_ND (fun _ => ?_) (fun _ => ?_)
   | refine e_need (by first | omega | (constructor <;> omega) | rfl | (rw [i64_iff]; omega)) ?_
   | refine e_callH (AFunH.frameB [1] (Fits_fun t.2.2.2 s) rfl rfl rfl rfl rfl rfl rfl) ?_
   | refine e_call (swithin_fun t.2.1 0 4) (fun h => nomatch h) ?_
   | refine e_callH (AFunH.frameB [0, 1, 2] (lcell_fun (5, t.2.2.1) 6 p tr wy s n m) rfl rfl rfl rfl rfl rfl rfl) ?_
   | refine e_callH (AFunH.frameB [0, 1, 2] (stack_fun t.1 p tr wy s n m hk hp hf (by omega)) rfl rfl rfl rfl rfl rfl rfl) ?_
   | refine e_call (swithin_fun t.2.2.1 0 ((s.2.2.2.1.length : Int) - 1)) (fun h => nomatch h) ?_
   | exact fun hE => g_fin (g_end [0, 1, 2] (kk rfl) (by decide) (by rw [hE]; first | exact leAV.refl _ | rfl | (repeat' first | exact leC.refl _ | exact trivial | rfl | constructor)) (by first | exact leHs.refl _ | (rw [hE]; exact leHs.refl _)))

def rg2F (t : EThread) (p : EProg) (tr : List (List (List EVal))) (wy : List (List Bool)) (s : EState) (n : Nat) (m : Int → Option Int) : Bool × Nat × (Int → Option Int) :=
 ((!(thrF t p tr wy s n m).1), (thrF t p tr wy s n m).2.1, (thrF t p tr wy s n m).2.2)
noncomputable def ocNb : Orc where
 pure := fun f args => match f, args with
  | _, _ => none
 heap := fun f args H => match f, args with
  | 121, [.one (.c (.ptr b0 0 0 0)), a1] => (match cellsAs 123 H[b0]? with
   | some [c0_0_0, c0_0_1, c0_0_2, .ptr b1 0 0 0, c0_2, c0_3, .map b2] => (match cellsAs 40 H[b1]? with
   | some c1 => (match dA tThread a1, dCs tProg [c0_0_0, c0_0_1, c0_0_2], dC (.slice (.slice (.slice tVal))) c0_2, dC (.slice (.slice .bool)) c0_3, dCs tState c1, mapAs 3 tI tI H[b2]? with
    | some x1, some y0_0, some y0_2, some y0_3, some y1_0, some (n2, y2) => hres [b0, b1, b2] H (.c (.bool ((thrF x1 y0_0 y0_2 y0_3 y1_0 n2 y2).1))) [.cells 123 [.ro tFn y0_0.1, .ro tVal y0_0.2.1, .ro .str y0_0.2.2, .ptr 1 0 0 0, .ro (.slice (.slice tVal)) y0_2, .ro (.slice .bool) y0_3, .map 2], .cells 40 (Ty.enc tState y1_0), .map 3 tI tI (thrF x1 y0_0 y0_2 y0_3 y1_0 n2 y2).2.1 (thrF x1 y0_0 y0_2 y0_3 y1_0 n2 y2).2.2]
    | _, _, _, _, _, _ => none)
   | _ => none)
   | _ => none)
  | _, _ => none
def rg2_lv : LV := ⟨([]), []⟩
abbrev gJf1 (p : EProg) (tr : List (List (List EVal))) (wy : List (List Bool)) : List CV := [.ro tFn p.1, .ro tVal p.2.1, .ro .str p.2.2, .ptr 2 0 0 0, .ro (.slice (.slice tVal)) tr, .ro (.slice .bool) wy, .map 3]
noncomputable def rg2_T (t : EThread) (p : EProg) (tr : List (List (List EVal))) (wy : List (List Bool)) (s : EState) (n : Nat) (m : Int → Option Int) : Tree :=
 .callH 121 [.c (.ptr 1 0 0 0), .agg (Ty.enc tThread t)] [.cells 117 [.ptr 1 0 0 0], .cells 123 (gJf1 p tr wy), .cells 40 (Ty.enc tState s), .map 3 tI tI n m, .cells 57 (Ty.enc tThread t)] (.c (.bool (thrF t p tr wy s n m).1)) [.cells 117 [.ptr 1 0 0 0], .cells 123 (gJf1 p tr wy), .cells 40 (Ty.enc tState s), .map 3 tI tI (thrF t p tr wy s n m).2.1 (thrF t p tr wy s n m).2.2, .cells 57 (Ty.enc tThread t)] [1, 2, 3] <|
 .ret (.c (.bool (!(thrF t p tr wy s n m).1))) [.cells 117 [.ptr 1 0 0 0], .cells 123 (gJf1 p tr wy), .cells 40 (Ty.enc tState s), .map 3 tI tI (thrF t p tr wy s n m).2.1 (thrF t p tr wy s n m).2.2, .cells 57 (Ty.enc tThread t)]
theorem rg2_fun (t : EThread) (p : EProg) (tr : List (List (List EVal))) (wy : List (List Bool)) (s : EState) (n : Nat) (m : Int → Option Int)  (hk : lookOk p tr wy) (hp : 0 < p.1.length) (hf : t.1.length ≤ 1000000) (hn : n + t.1.length ≤ 1000000000) : AFunH Tryz.prog 120 [.agg (tThread.enc t), .c (.ptr 0 0 0 0)] [.cells 117 [.ptr 1 0 0 0], .cells 123 (gJf1 p tr wy), .cells 40 (Ty.enc tState s), .map 3 tI tI n m] (.c (.bool ((rg2F t p tr wy s n m).1))) [.cells 117 [.ptr 1 0 0 0], .cells 123 (gJf1 p tr wy), .cells 40 (Ty.enc tState s), .map 3 tI tI (rg2F t p tr wy s n m).2.1 (rg2F t p tr wy s n m).2.2] (List.range 4) :=
 AFunH.ofL ocNb rg2_lv 3000 Tryz.func120 mixed rfl (by decide) (Nat.le_of_ble_eq_true rfl) rfl rfl (Nat.le_of_ble_eq_true rfl) (rg2_T t p tr wy s n m) (by kernel_rfl) fun hF => by
  unfold rg2_T
  refine e_start (rg2F.eq_1 t p tr wy s n m) ?_
  repeat' first
   | refine e_callH (AFunH.frameB [1, 2, 3] (thr_fun t p tr wy s n m hk hp hf hn) rfl rfl rfl rfl rfl rfl rfl) ?_
   | exact fun hE => g_fin (g_end [0, 1, 2, 3] (kk rfl) (by decide) (by rw [hE]; first | exact leAV.refl _ | rfl | (repeat' first | exact leC.refl _ | exact trivial | rfl | constructor)) (by first | exact leHs.refl _ | (rw [hE]; exact leHs.refl _)))

end Go.Proofs.YtkonkblfckhcbaaGreatDoor
namespace Go.Proofs.YtkonkblfckhcbaaGreatDoor
set_option maxHeartbeats 4000000
set_option linter.unusedVariables false
set_option linter.unusedSimpArgs false
set_option maxRecDepth 100000
theorem thrF_n (t : EThread) (p : EProg) (tr : List (List (List EVal))) (wy : List (List Bool)) (s : EState) (n : Nat) (m : Int → Option Int) : (thrF t p tr wy s n m).2.1 ≤ n + t.1.length := by
 have h := stGo_n t.1 p tr wy s (t.1.length - 0) 0 n m rfl
 unfold thrF
 repeat' split
 all_goals first | exact Nat.le_add_right _ _ | exact h
theorem rg2F_n (t : EThread) (p : EProg) (tr : List (List (List EVal))) (wy : List (List Bool)) (s : EState) (n : Nat) (m : Int → Option Int) : (rg2F t p tr wy s n m).2.1 ≤ n + t.1.length := thrF_n t p tr wy s n m
def ixGo (l : List EThread) (p : EProg) (tr : List (List (List EVal))) (wy : List (List Bool)) (s : EState) (k : Nat) (n : Nat) (m : Int → Option Int) : Int × Nat × (Int → Option Int) :=
 if k < l.length then (if (rg2F (l.getD k (Ty.dflt tThread)) p tr wy s n m).1 = true then ((k : Int), (rg2F (l.getD k (Ty.dflt tThread)) p tr wy s n m).2.1, (rg2F (l.getD k (Ty.dflt tThread)) p tr wy s n m).2.2)
  else ixGo l p tr wy s (k + 1) (rg2F (l.getD k (Ty.dflt tThread)) p tr wy s n m).2.1 (rg2F (l.getD k (Ty.dflt tThread)) p tr wy s n m).2.2) else (-1, n, m)
termination_by l.length - k
noncomputable def ocOa : Orc where
 pure := fun f args => match f, args with
  | _, _ => none
 heap := fun f args H => match f, args with
  | 120, [a0, .one (.c (.ptr b0 0 0 0))] => (match cellsAs 117 H[b0]? with
   | some [.ptr b1 0 0 0] => (match cellsAs 123 H[b1]? with
   | some [c1_0_0, c1_0_1, c1_0_2, .ptr b2 0 0 0, c1_2, c1_3, .map b3] => (match cellsAs 40 H[b2]? with
   | some c2 => (match dA tThread a0, dCs tProg [c1_0_0, c1_0_1, c1_0_2], dC (.slice (.slice (.slice tVal))) c1_2, dC (.slice (.slice .bool)) c1_3, dCs tState c2, mapAs 3 tI tI H[b3]? with
    | some x0, some y1_0, some y1_2, some y1_3, some y2_0, some (n3, y3) => hres [b0, b1, b2, b3] H (.c (.bool ((rg2F x0 y1_0 y1_2 y1_3 y2_0 n3 y3).1))) [.cells 117 [.ptr 1 0 0 0], .cells 123 [.ro tFn y1_0.1, .ro tVal y1_0.2.1, .ro .str y1_0.2.2, .ptr 2 0 0 0, .ro (.slice (.slice tVal)) y1_2, .ro (.slice .bool) y1_3, .map 3], .cells 40 (Ty.enc tState y2_0), .map 3 tI tI (rg2F x0 y1_0 y1_2 y1_3 y2_0 n3 y3).2.1 (rg2F x0 y1_0 y1_2 y1_3 y2_0 n3 y3).2.2]
    | _, _, _, _, _, _ => none)
   | _ => none)
   | _ => none)
   | _ => none)
  | _, _ => none
def ixT_lv : LV := ⟨(true :: true :: F4 (false :: true :: true :: F8 (F2 ([])))), []⟩
abbrev gJg0 (p : EProg) (tr : List (List (List EVal))) (wy : List (List Bool)) : List CV := [.ro tFn p.1, .ro tVal p.2.1, .ro .str p.2.2, .ptr 2 0 0 0, .ro (.slice (.slice tVal)) tr, .ro (.slice .bool) wy, .map 3]
noncomputable def ixT_T (l : List EThread) (p : EProg) (tr : List (List (List EVal))) (wy : List (List Bool)) (s : EState) (n : Nat) (m : Int → Option Int) : Tree :=
 .stop (lp (bodyOf Tryz.f115) 0) (.c (.ro tThread l) :: .c (.fnc (.fn0 120) (.ptr 0 0 0 0)) :: J4 (.junk :: .c (.int .i64 (l.length : Int)) :: .c (.int .i64 0) :: J8 (J2 ([])))) [.cells 117 [.ptr 1 0 0 0], .cells 123 (gJg0 p tr wy), .cells 40 (Ty.enc tState s), .map 3 tI tI n m]
noncomputable def ixT_l0_R (l : List EThread) (p : EProg) (tr : List (List (List EVal))) (wy : List (List Bool)) (s : EState) (n : Nat) (m : Int → Option Int) (k : Nat) (j : Nat) (u : Int → Option Int) : Tree :=
 .ite (decide (((k : Nat) : Int) < (l.length : Int)))
 (.need ((0 : Int) ≤ ((k : Nat) : Int) ∧ (((k : Nat) : Int) : Int) < (l.length : Int)) <|
  .need (k < l.length) <|
  .callH 120 [.agg (Ty.enc tThread (l.getD k tThread.dflt)), .c (.ptr 0 0 0 0)] [.cells 117 [.ptr 1 0 0 0], .cells 123 (gJg0 p tr wy), .cells 40 (Ty.enc tState s), .map 3 tI tI j u] (.c (.bool (rg2F (l.getD k tThread.dflt) p tr wy s j u).1)) [.cells 117 [.ptr 1 0 0 0], .cells 123 (gJg0 p tr wy), .cells 40 (Ty.enc tState s), .map 3 tI tI (rg2F (l.getD k tThread.dflt) p tr wy s j u).2.1 (rg2F (l.getD k tThread.dflt) p tr wy s j u).2.2] [0, 1, 2, 3] <|
  .ite ((rg2F (l.getD k tThread.dflt) p tr wy s j u).1)
  (.ret (.c (.int .i64 ((k : Nat) : Int))) [.cells 117 [.ptr 1 0 0 0], .cells 123 (gJg0 p tr wy), .cells 40 (Ty.enc tState s), .map 3 tI tI (rg2F (l.getD k tThread.dflt) p tr wy s j u).2.1 (rg2F (l.getD k tThread.dflt) p tr wy s j u).2.2])
  (.need (inR .i64 (((k : Nat) : Int) + 1)) <|
  .stop (lp (bodyOf Tryz.f115) 0) (.c (.ro tThread l) :: .c (.fnc (.fn0 120) (.ptr 0 0 0 0)) :: J4 (.junk :: .c (.int .i64 (l.length : Int)) :: .c (.int .i64 (((k : Nat) : Int) + 1)) :: J8 (J2 ([])))) [.cells 117 [.ptr 1 0 0 0], .cells 123 (gJg0 p tr wy), .cells 40 (Ty.enc tState s), .map 3 tI tI (rg2F (l.getD k tThread.dflt) p tr wy s j u).2.1 (rg2F (l.getD k tThread.dflt) p tr wy s j u).2.2]))
 (.ret (.c (.int .i64 (-1))) [.cells 117 [.ptr 1 0 0 0], .cells 123 (gJg0 p tr wy), .cells 40 (Ty.enc tState s), .map 3 tI tI j u])
theorem ixT_l0 (l : List EThread) (p : EProg) (tr : List (List (List EVal))) (wy : List (List Bool)) (s : EState) (n : Nat) (m : Int → Option Int) (k : Nat) (j : Nat) (u : Int → Option Int) (hk : lookOk p tr wy) (hp : 0 < p.1.length) (hl : l.length ≤ 1000) (hf : ∀ x ∈ l, x.1.length ≤ 1000) (hn : j + (l.length - k) * 1000 ≤ 1000000000) : RunN 4 Tryz.prog 115 (finQ Tryz.prog 4 (.c (.int .i64 ((ixGo l p tr wy s k j u).1))) [.cells 117 [.ptr 1 0 0 0], .cells 123 (gJg0 p tr wy), .cells 40 (Ty.enc tState s), .map 3 tI tI (ixGo l p tr wy s k j u).2.1 (ixGo l p tr wy s k j u).2.2]) (lp (bodyOf Tryz.f115) 0) (.c (.ro tThread l) :: .c (.fnc (.fn0 120) (.ptr 0 0 0 0)) :: J4 (.junk :: .c (.int .i64 (l.length : Int)) :: .c (.int .i64 ((k : Nat) : Int)) :: J8 (J2 ([])))) [.cells 117 [.ptr 1 0 0 0], .cells 123 (gJg0 p tr wy), .cells 40 (Ty.enc tState s), .map 3 tI tI j u] :=
 Run.roundA ocOa ixT_lv 3000 Tryz.func115 mixed (ixT_l0_R l p tr wy s n m k j u) (by kernel_rfl) (by
  unfold ixT_l0_R
  refine g_iteD (fun h0 => ?_) (fun h0 => ?_)
  ·refine g_need (by first | omega | (constructor <;> omega) | rfl | (rw [i64_iff]; omega)) ?_
   refine g_need (by first | omega | (constructor <;> omega) | rfl | (rw [i64_iff]; omega)) ?_
   refine g_callH (AFunH.frameB [0, 1, 2, 3] (rg2_fun (l.getD k tThread.dflt) p tr wy s j u hk hp (by have := hf _ (getD_mem (α := EThread) (Ty.dflt tThread) (by omega : k < l.length)); omega) (by have := hf _ (getD_mem (α := EThread) (Ty.dflt tThread) (by omega : k < l.length)); omega)) rfl rfl rfl rfl rfl rfl rfl) ?_
   refine g_ite (fun h1 => ?_) (fun h1 => ?_)
   ·refine g_fin ?_
    exact g_end [0, 1, 2, 3] (kk rfl) (by decide) (⟨rfl, (show (((k : Nat) : Int) : Int) = (ixGo l p tr wy s k j u).1 from by first | (rw [ixGo, if_pos (by omega), if_pos (by assumption)]; done) | (rw [ixGo, if_neg (by omega)]; done) | (rw [ixGo, if_pos (by omega), if_pos (by assumption)]; exact leB.refl _) | (rw [ixGo, if_neg (by omega)]; exact leB.refl _))⟩) ⟨leB.refl _, leB.refl _, leB.refl _, (by first | (rw [ixGo, if_pos (by omega), if_pos (by assumption)]; done) | (rw [ixGo, if_neg (by omega)]; done) | (rw [ixGo, if_pos (by omega), if_pos (by assumption)]; exact leB.refl _) | (rw [ixGo, if_neg (by omega)]; exact leB.refl _)), trivial⟩
   ·refine g_need (by first | omega | (constructor <;> omega) | rfl | (rw [i64_iff]; omega)) ?_
    refine g_stop (RunN.keep [0, 1, 2, 3] (true :: true :: F4 (false :: true :: true :: F8 (F2 ([])))) (kk rfl) (by decide) rfl rfl ?_)
    have hq := rg2F_n (l.getD k (Ty.dflt tThread)) p tr wy s j u; have hq2 := hf _ (getD_mem (α := EThread) (Ty.dflt tThread) (by omega : k < l.length)); have ht := ixT_l0 l p tr wy s n m (k + 1) (rg2F (l.getD k tThread.dflt) p tr wy s j u).2.1 (rg2F (l.getD k tThread.dflt) p tr wy s j u).2.2 hk hp hl hf (by omega); rw [ixGo, if_pos (by omega), if_neg (by rw [h1]; decide)]; exact ht
  ·refine g_fin ?_
   exact g_end [0, 1, 2, 3] (kk rfl) (by decide) (⟨rfl, (show ((-1) : Int) = (ixGo l p tr wy s k j u).1 from by first | (rw [ixGo, if_pos (by omega), if_pos (by assumption)]; done) | (rw [ixGo, if_neg (by omega)]; done) | (rw [ixGo, if_pos (by omega), if_pos (by assumption)]; exact leB.refl _) | (rw [ixGo, if_neg (by omega)]; exact leB.refl _))⟩) ⟨leB.refl _, leB.refl _, leB.refl _, (by first | (rw [ixGo, if_pos (by omega), if_pos (by assumption)]; done) | (rw [ixGo, if_neg (by omega)]; done) | (rw [ixGo, if_pos (by omega), if_pos (by assumption)]; exact leB.refl _) | (rw [ixGo, if_neg (by omega)]; exact leB.refl _)), trivial⟩
  )
 termination_by l.length - k
 decreasing_by all_goals omega
theorem ixT_fun (l : List EThread) (p : EProg) (tr : List (List (List EVal))) (wy : List (List Bool)) (s : EState) (n : Nat) (m : Int → Option Int)  (hk : lookOk p tr wy) (hp : 0 < p.1.length) (hl : l.length ≤ 1000) (hf : ∀ x ∈ l, x.1.length ≤ 1000) (hn : n + l.length * 1000 ≤ 1000000000) : AFunH Tryz.prog 115 [.c (.ro tThread l), .c (.fnc (.fn0 120) (.ptr 0 0 0 0))] [.cells 117 [.ptr 1 0 0 0], .cells 123 (gJg0 p tr wy), .cells 40 (Ty.enc tState s), .map 3 tI tI n m] (.c (.int .i64 ((ixGo l p tr wy s 0 n m).1))) [.cells 117 [.ptr 1 0 0 0], .cells 123 (gJg0 p tr wy), .cells 40 (Ty.enc tState s), .map 3 tI tI (ixGo l p tr wy s 0 n m).2.1 (ixGo l p tr wy s 0 n m).2.2] (List.range 4) :=
 AFunH.ofL ocOa ixT_lv 3000 Tryz.func115 mixed rfl (by decide) (Nat.le_of_ble_eq_true rfl) rfl rfl (Nat.le_of_ble_eq_true rfl) (ixT_T l p tr wy s n m) (by kernel_rfl) fun hF => by
  unfold ixT_T
  refine g_stop (RunN.keep [0, 1, 2, 3] (true :: true :: F4 (false :: true :: true :: F8 (F2 ([])))) (kk rfl) (by decide) rfl rfl ?_)
  exact ixT_l0 l p tr wy s n m 0 n m hk hp hl hf (by omega)

noncomputable def ocOb : Orc where
 pure := fun f args => match f, args with
  | _, _ => none
 heap := fun f args H => match f, args with
  | 115, [a0, .one (.c (.fnc (.fn0 120) (.ptr b0 0 0 0)))] => (match cellsAs 117 H[b0]? with
   | some [.ptr b1 0 0 0] => (match cellsAs 123 H[b1]? with
   | some [c1_0_0, c1_0_1, c1_0_2, .ptr b2 0 0 0, c1_2, c1_3, .map b3] => (match cellsAs 40 H[b2]? with
   | some c2 => (match dA (.slice tThread) a0, dCs tProg [c1_0_0, c1_0_1, c1_0_2], dC (.slice (.slice (.slice tVal))) c1_2, dC (.slice (.slice .bool)) c1_3, dCs tState c2, mapAs 3 tI tI H[b3]? with
    | some x0, some y1_0, some y1_2, some y1_3, some y2_0, some (n3, y3) => hres [b0, b1, b2, b3] H (.c (.int .i64 ((ixGo x0 y1_0 y1_2 y1_3 y2_0 0 n3 y3).1))) [.cells 117 [.ptr 1 0 0 0], .cells 123 [.ro tFn y1_0.1, .ro tVal y1_0.2.1, .ro .str y1_0.2.2, .ptr 2 0 0 0, .ro (.slice (.slice tVal)) y1_2, .ro (.slice .bool) y1_3, .map 3], .cells 40 (Ty.enc tState y2_0), .map 3 tI tI (ixGo x0 y1_0 y1_2 y1_3 y2_0 0 n3 y3).2.1 (ixGo x0 y1_0 y1_2 y1_3 y2_0 0 n3 y3).2.2]
    | _, _, _, _, _, _ => none)
   | _ => none)
   | _ => none)
   | _ => none)
  | _, _ => none
def coT_lv : LV := ⟨([]), []⟩
noncomputable def coT_T (l : List EThread) (p : EProg) (tr : List (List (List EVal))) (wy : List (List Bool)) (s : EState) (n : Nat) (m : Int → Option Int) : Tree :=
 .callH 115 [.c (.ro tThread l), .c (.fnc (.fn0 120) (.ptr 0 0 0 0))] [.cells 117 [.ptr 1 0 0 0], .cells 123 (gJg0 p tr wy), .cells 40 (Ty.enc tState s), .map 3 tI tI n m] (.c (.int .i64 (ixGo l p tr wy s 0 n m).1)) [.cells 117 [.ptr 1 0 0 0], .cells 123 (gJg0 p tr wy), .cells 40 (Ty.enc tState s), .map 3 tI tI (ixGo l p tr wy s 0 n m).2.1 (ixGo l p tr wy s 0 n m).2.2] [0, 1, 2, 3] <|
 .ret (.c (.bool (decide ((0 : Int) ≤ (ixGo l p tr wy s 0 n m).1)))) [.cells 117 [.ptr 1 0 0 0], .cells 123 (gJg0 p tr wy), .cells 40 (Ty.enc tState s), .map 3 tI tI (ixGo l p tr wy s 0 n m).2.1 (ixGo l p tr wy s 0 n m).2.2]
theorem coT_fun (l : List EThread) (p : EProg) (tr : List (List (List EVal))) (wy : List (List Bool)) (s : EState) (n : Nat) (m : Int → Option Int)  (hk : lookOk p tr wy) (hp : 0 < p.1.length) (hl : l.length ≤ 1000) (hf : ∀ x ∈ l, x.1.length ≤ 1000) (hn : n + l.length * 1000 ≤ 1000000000) : AFunH Tryz.prog 57 [.c (.ro tThread l), .c (.fnc (.fn0 120) (.ptr 0 0 0 0))] [.cells 117 [.ptr 1 0 0 0], .cells 123 (gJg0 p tr wy), .cells 40 (Ty.enc tState s), .map 3 tI tI n m] (.c (.bool (decide (0 ≤ (ixGo l p tr wy s 0 n m).1)))) [.cells 117 [.ptr 1 0 0 0], .cells 123 (gJg0 p tr wy), .cells 40 (Ty.enc tState s), .map 3 tI tI (ixGo l p tr wy s 0 n m).2.1 (ixGo l p tr wy s 0 n m).2.2] (List.range 4) :=
 AFunH.ofL ocOb coT_lv 3000 Tryz.func57 mixed rfl (by decide) (Nat.le_of_ble_eq_true rfl) rfl rfl (Nat.le_of_ble_eq_true rfl) (coT_T l p tr wy s n m) (by kernel_rfl) fun hF => by
  unfold coT_T
  refine g_callH (AFunH.frameB [0, 1, 2, 3] (ixT_fun l p tr wy s n m hk hp hl hf hn) rfl rfl rfl rfl rfl rfl rfl) ?_
  refine g_fin ?_
  exact g_end [0, 1, 2, 3] (kk rfl) (by decide) ((show (decide ((0 : Int) ≤ (ixGo l p tr wy s 0 n m).1) : Bool) = decide (0 ≤ (ixGo l p tr wy s 0 n m).1) from by first | rfl | exact leB.refl _)) ⟨leB.refl _, leB.refl _, leB.refl _, leB.refl _, trivial⟩

end Go.Proofs.YtkonkblfckhcbaaGreatDoor
namespace Go.Proofs.YtkonkblfckhcbaaGreatDoor
set_option maxHeartbeats 4000000
set_option linter.unusedVariables false
set_option linter.unusedSimpArgs false
set_option maxRecDepth 100000
def rgStep (s : EState) (u : Int → Option Int) (k : Nat) : Bool :=
 if (s.1.getD k tCell.dflt).1 = 5 then
  if (s.1.getD k tCell.dflt).2.1 = 1 then
   if ((u ((k : Nat) : Int)).getD 0) = 0 then
    false
   else
    true
  else
   true
 else
  true
def rgGo (s : EState) (u : Int → Option Int) (k : Nat) : Bool :=
 if k < s.1.length then (if rgStep s u k = true then rgGo s u (k + 1) else false) else true
termination_by s.1.length - k
def rightF (p : EProg) (tr : List (List (List EVal))) (wy : List (List Bool)) (s : EState) (n : Nat) (m : Int → Option Int) : Bool × Nat × (Int → Option Int) :=
 if (s.2.2.1.length : Int) < (p.2.2.length : Int) then
  (false, n, m)
 else
  if (s.2.2.1.take p.2.2.length) = p.2.2 then
   if (swithinF s.2.2.2.2.2.2.2 0 1000000000) = true then
    if (swithinF s.2.2.2.2.2.2.1 0 1000000000) = true then
     if (s.2.2.2.1.length : Int) = 0 then
      (false, n, m)
     else
      if List.any s.1 (fun c => rg1F c p tr wy s) = true then
       (false, n, m)
      else
       if 0 ≤ (ixGo s.2.2.2.1 p tr wy s 0 n m).1 then
        (false, (ixGo s.2.2.2.1 p tr wy s 0 n m).2.1, (ixGo s.2.2.2.1 p tr wy s 0 n m).2.2)
       else
        (rgGo s (ixGo s.2.2.2.1 p tr wy s 0 n m).2.2 0, (ixGo s.2.2.2.1 p tr wy s 0 n m).2.1, (ixGo s.2.2.2.1 p tr wy s 0 n m).2.2)
    else
     (false, n, m)
   else
    (false, n, m)
  else
   (false, n, m)
noncomputable def ocPa : Orc where
 pure := fun f args => match f, args with
  | 51, [a0, a1] => match dA (.slice .str) a0, dA (.slice .str) a1 with
   | some x0, some x1 => some (.c (.bool (decide (x0 = x1))))
   | _, _ => none
  | 117, [a0, a1, a2] => match dA tI a0, dA tI a1, dA tI a2 with
   | some x0, some x1, some x2 => some (.c (.bool (swithinF x0 x1 x2)))
   | _, _, _ => none
  | _, _ => none
 heap := fun f args H => match f, args with
  | 57, [a0, .one (.c (.fnc (.fn0 120) (.ptr b0 0 0 0)))] => (match cellsAs 117 H[b0]? with
   | some [.ptr b1 0 0 0] => (match cellsAs 123 H[b1]? with
   | some [c1_0_0, c1_0_1, c1_0_2, .ptr b2 0 0 0, c1_2, c1_3, .map b3] => (match cellsAs 40 H[b2]? with
   | some c2 => (match dA (.slice tThread) a0, dCs tProg [c1_0_0, c1_0_1, c1_0_2], dC (.slice (.slice (.slice tVal))) c1_2, dC (.slice (.slice .bool)) c1_3, dCs tState c2, mapAs 3 tI tI H[b3]? with
    | some x0, some y1_0, some y1_2, some y1_3, some y2_0, some (n3, y3) => hres [b0, b1, b2, b3] H (.c (.bool (decide (0 ≤ (ixGo x0 y1_0 y1_2 y1_3 y2_0 0 n3 y3).1)))) [.cells 117 [.ptr 1 0 0 0], .cells 123 [.ro tFn y1_0.1, .ro tVal y1_0.2.1, .ro .str y1_0.2.2, .ptr 2 0 0 0, .ro (.slice (.slice tVal)) y1_2, .ro (.slice .bool) y1_3, .map 3], .cells 40 (Ty.enc tState y2_0), .map 3 tI tI (ixGo x0 y1_0 y1_2 y1_3 y2_0 0 n3 y3).2.1 (ixGo x0 y1_0 y1_2 y1_3 y2_0 0 n3 y3).2.2]
    | _, _, _, _, _, _ => none)
   | _ => none)
   | _ => none)
   | _ => none)
  | 105, [a0, .one (.c (.fnc (.fn0 118) (.ptr b0 0 0 0)))] => (match cellsAs 117 H[b0]? with
   | some [.ptr b1 0 0 0] => (match cellsAs 123 H[b1]? with
   | some [c1_0_0, c1_0_1, c1_0_2, .ptr b2 0 0 0, c1_2, c1_3, .map b3] => (match cellsAs 40 H[b2]? with
   | some c2 => (match dA (.slice tCell) a0, dCs tProg [c1_0_0, c1_0_1, c1_0_2], dC (.slice (.slice (.slice tVal))) c1_2, dC (.slice (.slice .bool)) c1_3, dCs tState c2, mapAs 3 tI tI H[b3]? with
    | some x0, some y1_0, some y1_2, some y1_3, some y2_0, some (n3, y3) => hres [b0, b1, b2, b3] H (.c (.bool (List.any x0 (fun c => rg1F c y1_0 y1_2 y1_3 y2_0)))) [.cells 117 [.ptr 1 0 0 0], .cells 123 [.ro tFn y1_0.1, .ro tVal y1_0.2.1, .ro .str y1_0.2.2, .ptr 2 0 0 0, .ro (.slice (.slice tVal)) y1_2, .ro (.slice .bool) y1_3, .map 3], .cells 40 (Ty.enc tState y2_0), .map 3 tI tI n3 y3]
    | _, _, _, _, _, _ => none)
   | _ => none)
   | _ => none)
   | _ => none)
  | _, _ => none
def right_lv : LV := ⟨(false :: true :: F32 (F32 (F32 (false :: true :: true :: true :: F16 (F4 (F2 ([]))))))), []⟩
abbrev gJh3 (p : EProg) (tr : List (List (List EVal))) (wy : List (List Bool)) : List CV := [.ro tFn p.1, .ro tVal p.2.1, .ro .str p.2.2, .ptr 1 0 0 0, .ro (.slice (.slice tVal)) tr, .ro (.slice .bool) wy, .map 2]
noncomputable def right_T (p : EProg) (tr : List (List (List EVal))) (wy : List (List Bool)) (s : EState) (n : Nat) (m : Int → Option Int) : Tree :=
 .ite (decide ((s.2.2.1.length : Int) < (p.2.2.length : Int)))
 (.ret (.c (.lit false)) [.cells 123 (gJh3 p tr wy), .cells 40 (Ty.enc tState s), .map 3 tI tI n m, .cells 117 [.ptr 0 0 0 0]])
 (.need ((0 : Int) ≤ (p.2.2.length : Int) ∧ ((p.2.2.length : Int) : Int) ≤ (s.2.2.1.length : Int)) <|
  .call 51 [.c (.ro .str (s.2.2.1.take p.2.2.length)), .c (.ro .str p.2.2)] false (.c (.bool (decide ((s.2.2.1.take p.2.2.length) = p.2.2)))) <|
  .ite ((!(decide ((s.2.2.1.take p.2.2.length) = p.2.2))))
  (.ret (.c (.lit false)) [.cells 123 (gJh3 p tr wy), .cells 40 (Ty.enc tState s), .map 3 tI tI n m, .cells 117 [.ptr 0 0 0 0]])
  (.call 117 [.c (.int .i64 s.2.2.2.2.2.2.2), .c (.int .i64 0), .c (.int .i64 1000000000)] false (.c (.bool (swithinF s.2.2.2.2.2.2.2 0 1000000000))) <|
  .ite ((!(swithinF s.2.2.2.2.2.2.2 0 1000000000)))
  (.ret (.c (.lit false)) [.cells 123 (gJh3 p tr wy), .cells 40 (Ty.enc tState s), .map 3 tI tI n m, .cells 117 [.ptr 0 0 0 0]])
  (.call 117 [.c (.int .i64 s.2.2.2.2.2.2.1), .c (.int .i64 0), .c (.int .i64 1000000000)] false (.c (.bool (swithinF s.2.2.2.2.2.2.1 0 1000000000))) <|
   .ite ((!(swithinF s.2.2.2.2.2.2.1 0 1000000000)))
   (.ret (.c (.lit false)) [.cells 123 (gJh3 p tr wy), .cells 40 (Ty.enc tState s), .map 3 tI tI n m, .cells 117 [.ptr 0 0 0 0]])
   (.ite (decide ((s.2.2.2.1.length : Int) = 0))
   (.ret (.c (.lit false)) [.cells 123 (gJh3 p tr wy), .cells 40 (Ty.enc tState s), .map 3 tI tI n m, .cells 117 [.ptr 0 0 0 0]])
   (.callH 105 [.c (.ro tCell s.1), .c (.fnc (.fn0 118) (.ptr 3 0 0 0))] [.cells 123 (gJh3 p tr wy), .cells 40 (Ty.enc tState s), .map 3 tI tI n m, .cells 117 [.ptr 0 0 0 0]] (.c (.bool (List.any s.1 (fun c => rg1F c p tr wy s)))) [.cells 123 (gJh3 p tr wy), .cells 40 (Ty.enc tState s), .map 3 tI tI n m, .cells 117 [.ptr 0 0 0 0]] [3, 0, 1, 2] <|
    .ite (List.any s.1 (fun c => rg1F c p tr wy s))
    (.ret (.c (.lit false)) [.cells 123 (gJh3 p tr wy), .cells 40 (Ty.enc tState s), .map 3 tI tI n m, .cells 117 [.ptr 0 0 0 0]])
    (.callH 57 [.c (.ro tThread s.2.2.2.1), .c (.fnc (.fn0 120) (.ptr 3 0 0 0))] [.cells 123 (gJh3 p tr wy), .cells 40 (Ty.enc tState s), .map 3 tI tI n m, .cells 117 [.ptr 0 0 0 0]] (.c (.bool (decide (0 ≤ (ixGo s.2.2.2.1 p tr wy s 0 n m).1)))) [.cells 123 (gJh3 p tr wy), .cells 40 (Ty.enc tState s), .map 3 tI tI (ixGo s.2.2.2.1 p tr wy s 0 n m).2.1 (ixGo s.2.2.2.1 p tr wy s 0 n m).2.2, .cells 117 [.ptr 0 0 0 0]] [3, 0, 1, 2] <|
    .ite (decide (0 ≤ (ixGo s.2.2.2.1 p tr wy s 0 n m).1))
    (.ret (.c (.lit false)) [.cells 123 (gJh3 p tr wy), .cells 40 (Ty.enc tState s), .map 3 tI tI (ixGo s.2.2.2.1 p tr wy s 0 n m).2.1 (ixGo s.2.2.2.1 p tr wy s 0 n m).2.2, .cells 117 [.ptr 0 0 0 0]])
    (.stop (lp (bodyOf Tryz.f60) 0) (.junk :: .c (.ptr 3 0 0 0) :: J32 (J32 (J32 (.junk :: .c (.ro tCell s.1) :: .c (.int .i64 (s.1.length : Int)) :: .c (.int .i64 0) :: J16 (J4 (J2 ([]))))))) [.cells 123 (gJh3 p tr wy), .cells 40 (Ty.enc tState s), .map 3 tI tI (ixGo s.2.2.2.1 p tr wy s 0 n m).2.1 (ixGo s.2.2.2.1 p tr wy s 0 n m).2.2, .cells 117 [.ptr 0 0 0 0]])))))))
abbrev gJh0 (s : EState) (k : Nat) : List AV := (.junk :: .c (.ptr 3 0 0 0) :: J32 (J32 (J32 (.junk :: .c (.ro tCell s.1) :: .c (.int .i64 (s.1.length : Int)) :: .c (.int .i64 (((k : Nat) : Int) + 1)) :: J16 (J4 (J2 ([])))))))
noncomputable def right_l0_R (p : EProg) (tr : List (List (List EVal))) (wy : List (List Bool)) (s : EState) (n : Nat) (m : Int → Option Int) (k : Nat) (j : Nat) (u : Int → Option Int) : Tree :=
 .ite (decide (((k : Nat) : Int) < (s.1.length : Int)))
 (.need ((0 : Int) ≤ ((k : Nat) : Int) ∧ (((k : Nat) : Int) : Int) < (s.1.length : Int)) <|
  .need (k < s.1.length) <|
  .ite (decide ((s.1.getD k tCell.dflt).1 = 5))
  (.ite (decide ((s.1.getD k tCell.dflt).2.1 = 1))
  (.need (Tryz.prog = Tryz.prog ∧ MapLaw Tryz.prog 3 tI) <|
   .ite (decide (((u ((k : Nat) : Int)).getD 0) = 0))
   (.ret (.c (.lit false)) [.cells 123 (gJh3 p tr wy), .cells 40 (Ty.enc tState s), .map 3 tI tI j u, .cells 117 [.ptr 0 0 0 0], .cells 55 (Ty.enc tCell (s.1.getD k tCell.dflt))])
   (.need (inR .i64 (((k : Nat) : Int) + 1)) <|
   .stop (lp (bodyOf Tryz.f60) 0) (gJh0 s k) [.cells 123 (gJh3 p tr wy), .cells 40 (Ty.enc tState s), .map 3 tI tI j u, .cells 117 [.ptr 0 0 0 0], .cells 55 (Ty.enc tCell (s.1.getD k tCell.dflt))]))
  (.need (inR .i64 (((k : Nat) : Int) + 1)) <|
   .stop (lp (bodyOf Tryz.f60) 0) (gJh0 s k) [.cells 123 (gJh3 p tr wy), .cells 40 (Ty.enc tState s), .map 3 tI tI j u, .cells 117 [.ptr 0 0 0 0], .cells 55 (Ty.enc tCell (s.1.getD k tCell.dflt))]))
  (.need (inR .i64 (((k : Nat) : Int) + 1)) <|
  .stop (lp (bodyOf Tryz.f60) 0) (gJh0 s k) [.cells 123 (gJh3 p tr wy), .cells 40 (Ty.enc tState s), .map 3 tI tI j u, .cells 117 [.ptr 0 0 0 0], .cells 55 (Ty.enc tCell (s.1.getD k tCell.dflt))]))
 (.ret (.c (.lit true)) [.cells 123 (gJh3 p tr wy), .cells 40 (Ty.enc tState s), .map 3 tI tI j u, .cells 117 [.ptr 0 0 0 0]])
theorem right_l0 (p : EProg) (tr : List (List (List EVal))) (wy : List (List Bool)) (s : EState) (n : Nat) (m : Int → Option Int) (k : Nat) (j : Nat) (u : Int → Option Int) (hz : s.1.length ≤ 9223372036854775807) : RunN 3 Tryz.prog 60 (finQ Tryz.prog 3 (.c (.bool (rgGo s u k))) [.cells 123 (gJh3 p tr wy), .cells 40 (Ty.enc tState s), .map 3 tI tI j u]) (lp (bodyOf Tryz.f60) 0) (.junk :: .c (.ptr 3 0 0 0) :: J32 (J32 (J32 (.junk :: .c (.ro tCell s.1) :: .c (.int .i64 (s.1.length : Int)) :: .c (.int .i64 ((k : Nat) : Int)) :: J16 (J4 (J2 ([]))))))) [.cells 123 (gJh3 p tr wy), .cells 40 (Ty.enc tState s), .map 3 tI tI j u, .cells 117 [.ptr 0 0 0 0]] :=
 Run.roundA ocPa right_lv 3000 Tryz.func60 mixed (right_l0_R p tr wy s n m k j u) (by kernel_rfl) (by
  unfold right_l0_R
  refine g_iteD (fun h0 => ?_) (fun h0 => ?_)
  ·refine g_need (by first | omega | (constructor <;> omega) | rfl | exact ⟨rfl, intKey⟩ | exact ⟨rfl, intKey, by omega⟩ | (rw [i64_iff]; omega)) ?_
   refine g_need (by first | omega | (constructor <;> omega) | rfl | exact ⟨rfl, intKey⟩ | exact ⟨rfl, intKey, by omega⟩ | (rw [i64_iff]; omega)) ?_
   refine g_iteD (fun h1 => ?_) (fun h1 => ?_)
   ·refine g_iteD (fun h2 => ?_) (fun h2 => ?_)
    ·refine g_need (by first | omega | (constructor <;> omega) | rfl | exact ⟨rfl, intKey⟩ | exact ⟨rfl, intKey, by omega⟩ | (rw [i64_iff]; omega)) ?_
     refine g_iteD (fun h3 => ?_) (fun h3 => ?_)
     ·refine g_fin ?_
      exact g_end [0, 1, 2] (kk rfl) (by decide) ((show (false : Bool) = rgGo s u k from by first | (rw [rgGo, if_neg (by omega)]; done) | (rw [rgGo, if_pos (by omega), if_neg (by rw [rgStep, if_pos h1, if_pos h2, if_pos h3]; decide)]; done) | exact leB.refl _)) ⟨leB.refl _, leB.refl _, leB.refl _, trivial⟩
     ·refine g_need (by first | omega | (constructor <;> omega) | rfl | exact ⟨rfl, intKey⟩ | exact ⟨rfl, intKey, by omega⟩ | (rw [i64_iff]; omega)) ?_
      refine g_stop (RunN.keep [0, 1, 2, 3] (false :: true :: F32 (F32 (F32 (false :: true :: true :: true :: F16 (F4 (F2 ([]))))))) (kk rfl) (by decide) rfl rfl ?_)
      have ht := right_l0 p tr wy s n m (k + 1) j u hz; rw [rgGo, if_pos (by omega), if_pos (by rw [rgStep, if_pos h1, if_pos h2, if_neg h3])]; exact ht
    ·refine g_need (by first | omega | (constructor <;> omega) | rfl | exact ⟨rfl, intKey⟩ | exact ⟨rfl, intKey, by omega⟩ | (rw [i64_iff]; omega)) ?_
     refine g_stop (RunN.keep [0, 1, 2, 3] (false :: true :: F32 (F32 (F32 (false :: true :: true :: true :: F16 (F4 (F2 ([]))))))) (kk rfl) (by decide) rfl rfl ?_)
     have ht := right_l0 p tr wy s n m (k + 1) j u hz; rw [rgGo, if_pos (by omega), if_pos (by rw [rgStep, if_pos h1, if_neg h2])]; exact ht
   ·refine g_need (by first | omega | (constructor <;> omega) | rfl | exact ⟨rfl, intKey⟩ | exact ⟨rfl, intKey, by omega⟩ | (rw [i64_iff]; omega)) ?_
    refine g_stop (RunN.keep [0, 1, 2, 3] (false :: true :: F32 (F32 (F32 (false :: true :: true :: true :: F16 (F4 (F2 ([]))))))) (kk rfl) (by decide) rfl rfl ?_)
    have ht := right_l0 p tr wy s n m (k + 1) j u hz; rw [rgGo, if_pos (by omega), if_pos (by rw [rgStep, if_neg h1])]; exact ht
  ·refine g_fin ?_
   exact g_end [0, 1, 2] (kk rfl) (by decide) ((show (true : Bool) = rgGo s u k from by first | (rw [rgGo, if_neg (by omega)]; done) | (rw [rgGo, if_pos (by omega), if_neg (by rw [rgStep, ]; decide)]; done) | exact leB.refl _)) ⟨leB.refl _, leB.refl _, leB.refl _, trivial⟩
  )
 termination_by s.1.length - k
 decreasing_by all_goals omega
theorem right_fun (p : EProg) (tr : List (List (List EVal))) (wy : List (List Bool)) (s : EState) (n : Nat) (m : Int → Option Int)  (hk : lookOk p tr wy) (hp : 0 < p.1.length) (hc : ∀ c ∈ s.1, (c.1 = 4 → 0 ≤ c.2.1) ∧ (c.1 = 5 → c.2.1 = 0 → 0 < c.2.2.2.length)) (hl : s.2.2.2.1.length ≤ 1000) (hf : ∀ x ∈ s.2.2.2.1, x.1.length ≤ 1000) (hn : n + s.2.2.2.1.length * 1000 ≤ 1000000000) : AFunH Tryz.prog 60 [.c (.ptr 0 0 0 0)] [.cells 123 (gJh3 p tr wy), .cells 40 (Ty.enc tState s), .map 3 tI tI n m] (.c (.bool ((rightF p tr wy s n m).1))) [.cells 123 (gJh3 p tr wy), .cells 40 (Ty.enc tState s), .map 3 tI tI (rightF p tr wy s n m).2.1 (rightF p tr wy s n m).2.2] (List.range 3) :=
 AFunH.ofL ocPa right_lv 3000 Tryz.func60 mixed rfl (by decide) (Nat.le_of_ble_eq_true rfl) rfl rfl (Nat.le_of_ble_eq_true rfl) (right_T p tr wy s n m) (by kernel_rfl) fun hF => by
  have hz : s.1.length ≤ 9223372036854775807 := (hF.blk (b := 1) (t := tState) (x := s) rfl).1.1
  unfold right_T
  repeat' first
  | with_reducible refine g_iteND (fun h => ?_) (fun h => ?_)
  | with_reducible refine g_iteD (fun h => ?_) (fun h => ?_)
  | with_reducible refine g_iteN (fun h => ?_) (fun h => ?_)
  | with_reducible refine g_ite (fun h => ?_) (fun h => ?_)
  | refine g_need (by first | omega | (constructor <;> omega) | rfl | (rw [i64_iff]; omega)) ?_
  | (refine g_fin ?_; exact g_end [0, 1, 2] (kk rfl) (by decide) ((show (false : Bool) = (rightF p tr wy s n m).1 from by first | (simp only [rightF, *, if_true, if_false, Bool.false_eq_true, reduceCtorEq]; done) | (simp only [rightF, *, if_true, if_false, Bool.false_eq_true, reduceCtorEq]; exact leB.refl _) | exact leB.refl _)) ⟨leB.refl _, leB.refl _, (by first | (simp only [rightF, *, if_true, if_false, Bool.false_eq_true, reduceCtorEq]; done) | (simp only [rightF, *, if_true, if_false, Bool.false_eq_true, reduceCtorEq]; exact leB.refl _) | exact leB.refl _), trivial⟩)
  | refine g_call (eqS_fun (s.2.2.1.take p.2.2.length) p.2.2) (fun h => nomatch h) ?_
  | refine g_call (swithin_fun s.2.2.2.2.2.2.2 0 1000000000) (fun h => nomatch h) ?_
  | refine g_call (swithin_fun s.2.2.2.2.2.2.1 0 1000000000) (fun h => nomatch h) ?_
  | refine g_callH (AFunH.frameB [3, 0, 1, 2] (jRg1C_fun s.1 p tr wy s n m hk hc) rfl rfl rfl rfl rfl rfl rfl) ?_
  | refine g_callH (AFunH.frameB [3, 0, 1, 2] (coT_fun s.2.2.2.1 p tr wy s n m hk hp hl hf hn) rfl rfl rfl rfl rfl rfl rfl) ?_
  | (refine g_stop (RunN.keep [0, 1, 2, 3] (false :: true :: F32 (F32 (F32 (false :: true :: true :: true :: F16 (F4 (F2 ([]))))))) (kk rfl) (by decide) rfl rfl ?_); have hq := right_l0 p tr wy s n m 0 (ixGo s.2.2.2.1 p tr wy s 0 n m).2.1 (ixGo s.2.2.2.1 p tr wy s 0 n m).2.2 hz; simp only [rightF, *, if_true, if_false, Bool.false_eq_true, reduceCtorEq]; exact hq)

def sck1F (t : EThread) : Bool :=
 decide ((30 : Int) < (t.1.length : Int))
noncomputable def ocPb : Orc where
 pure := fun f args => match f, args with
  | _, _ => none
 heap := fun _ _ _ => none
def sck1_lv : LV := ⟨([]), []⟩
noncomputable def sck1_T (t : EThread) : Tree :=
 .ret (.c (.bool (decide ((30 : Int) < (t.1.length : Int))))) [.cells 57 (Ty.enc tThread t)]
theorem sck1_fun (t : EThread) : AFun Tryz.prog 58 [.agg (tThread.enc t)] (.c (.bool (sck1F t))) :=
 AFun.of ocPb sck1_lv 3000 Tryz.func58 mixed rfl (by decide) (Nat.le_of_ble_eq_true rfl) (sck1_T t) (by kernel_rfl) fun hF => by
  unfold sck1_T
  refine e_start (sck1F.eq_1 t) ?_
  repeat' first
   | exact e_rb

noncomputable def ocPc : Orc where
 pure := fun f args => match f, args with
  | 58, [a0] => match dA tThread a0 with
   | some x0 => some (.c (.bool (sck1F x0)))
   | _ => none
  | _, _ => none
 heap := fun _ _ _ => none
def jScI_lv : LV := ⟨(true :: true :: F4 (false :: true :: true :: F8 (F2 ([])))), []⟩
noncomputable def jScI_T (l : List EThread) : Tree :=
 .stop (lp (bodyOf Tryz.f115) 0) (.c (.ro tThread l) :: .c (.fn0 58) :: J4 (.junk :: .c (.int .i64 (l.length : Int)) :: .c (.int .i64 0) :: J8 (J2 ([])))) []
noncomputable def jScI_l0_R (l : List EThread) (i : Nat) : Tree :=
 .ite (decide (((i : Nat) : Int) < (l.length : Int)))
 (.need ((0 : Int) ≤ ((i : Nat) : Int) ∧ (((i : Nat) : Int) : Int) < (l.length : Int)) <|
  .need (i < l.length) <|
  .call 58 [.agg (Ty.enc tThread (l.getD i tThread.dflt))] false (.c (.bool (sck1F (l.getD i tThread.dflt)))) <|
  .ite (sck1F (l.getD i tThread.dflt))
  (.ret (.c (.int .i64 ((i : Nat) : Int))) [])
  (.need (inR .i64 (((i : Nat) : Int) + 1)) <|
  .stop (lp (bodyOf Tryz.f115) 0) (.c (.ro tThread l) :: .c (.fn0 58) :: J4 (.junk :: .c (.int .i64 (l.length : Int)) :: .c (.int .i64 (((i : Nat) : Int) + 1)) :: J8 (J2 ([])))) []))
 (.ret (.c (.int .i64 (-1))) [])
theorem jScI_l0 (l : List EThread) (i : Nat) (hl : l.length ≤ 9223372036854775807) : Run Tryz.prog 115 (retQ Tryz.prog (.c (.int .i64 (fstG (fun t => sck1F t) i (l.drop i))))) (lp (bodyOf Tryz.f115) 0) (.c (.ro tThread l) :: .c (.fn0 58) :: J4 (.junk :: .c (.int .i64 (l.length : Int)) :: .c (.int .i64 ((i : Nat) : Int)) :: J8 (J2 ([])))) [] :=
 Run.roundA ocPc jScI_lv 3000 Tryz.func115 mixed (jScI_l0_R l i) (by kernel_rfl) (by
  unfold jScI_l0_R
  repeat' first
  | with_reducible refine g_iteD (fun h => ?_) (fun h => ?_)
  | with_reducible refine g_ite (fun h => ?_) (fun h => ?_)
  | refine g_need (by first | (omega) | exact i64_iff.2 (by omega)) ?_
  | refine g_call (sck1_fun (l.getD i tThread.dflt)) (fun h => nomatch h) ?_
  | (exact g_reti (by first | (rw [dropCons (α := EThread) (Ty.dflt tThread) (by omega)]; simp only [fstG, *, if_true, decide_true]; done) | (rw [List.drop_eq_nil_of_le (by omega)]; rfl)))
  | (refine g_stop (RunN.keep [] (true :: true :: F4 (false :: true :: true :: F8 (F2 ([])))) n0 (by decide) rfl rfl ?_); have := jScI_l0 l (i + 1) hl; rw [dropCons (α := EThread) (Ty.dflt tThread) (by omega)]; simp only [fstG, *, if_false, Bool.false_eq_true, decide_false]; exact this)
  )
 termination_by l.length - i
 decreasing_by all_goals omega
theorem jScI_fun (l : List EThread) : AFun Tryz.prog 115 [.c (.ro tThread l), .c (.fn0 58)] (.c (.int .i64 (fstG (fun t => sck1F t) 0 l))) :=
 AFun.of ocPc jScI_lv 3000 Tryz.func115 mixed rfl (by decide) (Nat.le_of_ble_eq_true rfl) (jScI_T l) (by kernel_rfl) fun hF => by
  have hl : l.length ≤ 9223372036854775807 := hF.ro.1.1
  unfold jScI_T
  refine g_stop (RunN.keep [] (true :: true :: F4 (false :: true :: true :: F8 (F2 ([])))) n0 (by decide) rfl rfl ?_)
  exact jScI_l0 l 0 hl

noncomputable def ocPcc : Orc where
 pure := fun f args => match f, args with
  | 115, [a0, .one (.c (.fn0 58))] => match dA (.slice tThread) a0 with
   | some x0 => some (.c (.int .i64 (fstG (fun t => sck1F t) 0 x0)))
   | _ => none
  | _, _ => none
 heap := fun f args H => match f, args with
  | 115, [a0, .one (.c (.fnc (.fn0 120) (.ptr b0 0 0 0)))] => (match cellsAs 117 H[b0]? with
   | some [.ptr b1 0 0 0] => (match cellsAs 123 H[b1]? with
   | some [c1_0_0, c1_0_1, c1_0_2, .ptr b2 0 0 0, c1_2, c1_3, .map b3] => (match cellsAs 40 H[b2]? with
   | some c2 => (match dA (.slice tThread) a0, dCs tProg [c1_0_0, c1_0_1, c1_0_2], dC (.slice (.slice (.slice tVal))) c1_2, dC (.slice (.slice .bool)) c1_3, dCs tState c2, mapAs 3 tI tI H[b3]? with
    | some x0, some y1_0, some y1_2, some y1_3, some y2_0, some (n3, y3) => hres [b0, b1, b2, b3] H (.c (.int .i64 ((ixGo x0 y1_0 y1_2 y1_3 y2_0 0 n3 y3).1))) [.cells 117 [.ptr 1 0 0 0], .cells 123 [.ro tFn y1_0.1, .ro tVal y1_0.2.1, .ro .str y1_0.2.2, .ptr 2 0 0 0, .ro (.slice (.slice tVal)) y1_2, .ro (.slice .bool) y1_3, .map 3], .cells 40 (Ty.enc tState y2_0), .map 3 tI tI (ixGo x0 y1_0 y1_2 y1_3 y2_0 0 n3 y3).2.1 (ixGo x0 y1_0 y1_2 y1_3 y2_0 0 n3 y3).2.2]
    | _, _, _, _, _, _ => none)
   | _ => none)
   | _ => none)
   | _ => none)
  | _, _ => none
def jScC_lv : LV := ⟨([]), []⟩
noncomputable def jScC_T (l : List EThread) : Tree :=
 .call 115 [.c (.ro tThread l), .c (.fn0 58)] false (.c (.int .i64 (fstG (fun t => sck1F t) 0 l))) <|
 .ret (.c (.bool (decide ((0 : Int) ≤ fstG (fun t => sck1F t) 0 l)))) []
theorem jScC_fun (l : List EThread) : AFun Tryz.prog 57 [.c (.ro tThread l), .c (.fn0 58)] (.c (.bool (List.any l (fun t => sck1F t)))) :=
 AFun.of ocPcc jScC_lv 3000 Tryz.func57 mixed rfl (by decide) (Nat.le_of_ble_eq_true rfl) (jScC_T l) (by kernel_rfl) fun hF => by
  unfold jScC_T
  refine g_call (jScI_fun l) (fun h => nomatch h) ?_
  exact g_retb (by exact fstG_ge)

end Go.Proofs.YtkonkblfckhcbaaGreatDoor
namespace Go.Proofs.YtkonkblfckhcbaaGreatDoor
set_option maxHeartbeats 4000000
set_option linter.unusedVariables false
set_option linter.unusedSimpArgs false
set_option maxRecDepth 100000
def allT (l : List EFn) : List (List (List EVal)) := l.map triesT
def allW (l : List EFn) : List (List Bool) := l.map fun f => (triesF (toFn f).code).seen
noncomputable def ocQa : Orc where
 pure := fun f args => match f, args with
  | 116, [a0] => match dA tFn a0 with
   | some x0 => some (.tup [.c (.ro (.slice tVal) (triesT x0)), .c (.ro .bool ((triesF (toFn x0).code).seen)), .c (.bool ((!(triesF (toFn x0).code).bad)))])
   | _ => none
  | _, _ => none
 heap := fun _ _ _ => none
def All_lv : LV := ⟨(F4 (true :: true :: F4 (F2 (true :: true :: true :: F16 (F4 ([])))))), []⟩
noncomputable def All_T (p : EProg) : Tree :=
 .stop (lp (bodyOf Tryz.f59) 0) (J4 (.c (.nilsl) :: .c (.nilsl) :: J4 (J2 (.c (.ro tFn p.1) :: .c (.int .i64 (p.1.length : Int)) :: .c (.int .i64 0) :: J16 (J4 ([])))))) [.cells 26 (Ty.enc tProg p)]
noncomputable def All_l0_R (p : EProg) (k : Nat) (ls : List (List (List EVal))) (ws : List (List Bool)) : Tree :=
 .ite (decide (((k : Nat) : Int) < (p.1.length : Int)))
 (.need ((0 : Int) ≤ ((k : Nat) : Int) ∧ (((k : Nat) : Int) : Int) < (p.1.length : Int)) <|
  .need (k < p.1.length) <|
  .call 116 [.agg (Ty.enc tFn (p.1.getD k tFn.dflt))] false (.tup [.c (.ro (.slice tVal) (triesT (p.1.getD k tFn.dflt))), .c (.ro .bool (triesF (toFn (p.1.getD k tFn.dflt)).code).seen), .c (.bool (!(triesF (toFn (p.1.getD k tFn.dflt)).code).bad))]) <|
  .need (ls.length = ls.length) <|
  .need (0 = 0 ∧ 1 = ([triesT (p.1.getD k tFn.dflt)]).length) <|
  .need ((ls.length + ([triesT (p.1.getD k tFn.dflt)]).length) * 24 ≤ 140737488355328) <|
  .need (ws.length = ws.length) <|
  .need (0 = 0 ∧ 1 = ([(triesF (toFn (p.1.getD k tFn.dflt)).code).seen]).length) <|
  .need ((ws.length + ([(triesF (toFn (p.1.getD k tFn.dflt)).code).seen]).length) * 24 ≤ 140737488355328) <|
  .need (inR .i64 (((k : Nat) : Int) + 1)) <|
  .stop (lp (bodyOf Tryz.f59) 0) (J4 (.c (.osl 4 1 (ls ++ [triesT (p.1.getD k tFn.dflt)]).length) :: .c (.osl 6 1 (ws ++ [(triesF (toFn (p.1.getD k tFn.dflt)).code).seen]).length) :: J4 (J2 (.c (.ro tFn p.1) :: .c (.int .i64 (p.1.length : Int)) :: .c (.int .i64 (((k : Nat) : Int) + 1)) :: J16 (J4 ([])))))) [.dead, .dead, .cells 104 (Ty.enc tFn (p.1.getD k tFn.dflt)), .vec 197 (.slice (.slice tVal)) ([triesT (p.1.getD k tFn.dflt)]), .ovec 197 (.slice (.slice tVal)) (ls ++ [triesT (p.1.getD k tFn.dflt)]), .vec 156 (.slice .bool) ([(triesF (toFn (p.1.getD k tFn.dflt)).code).seen]), .ovec 156 (.slice .bool) (ws ++ [(triesF (toFn (p.1.getD k tFn.dflt)).code).seen])])
 (.ret (.tup [.c (.osl 0 1 ls.length), .c (.osl 1 1 ws.length)]) [.ovec 197 (.slice (.slice tVal)) ls, .ovec 156 (.slice .bool) ws])
theorem All_l0 (p : EProg) (k : Nat) (ls : List (List (List EVal))) (ws : List (List Bool)) (hj : ∀ f ∈ p.1, jumpsOk (toFn f).code ∧ f.2.2.2.2.length ≤ 600) (hp : p.1.length ≤ 1000000) (hl : ls.length ≤ k ∧ ws.length ≤ k) : Run Tryz.prog 59 (retQ Tryz.prog (.tup [.c (.ro (.slice (.slice tVal)) (ls ++ allT (p.1.drop k))), .c (.ro (.slice .bool) (ws ++ allW (p.1.drop k)))])) (lp (bodyOf Tryz.f59) 0) (J4 (.c (.osl 0 1 ls.length) :: .c (.osl 1 1 ws.length) :: J4 (J2 (.c (.ro tFn p.1) :: .c (.int .i64 (p.1.length : Int)) :: .c (.int .i64 ((k : Nat) : Int)) :: J16 (J4 ([])))))) [.ovec 197 (.slice (.slice tVal)) ls, .ovec 156 (.slice .bool) ws] :=
 Run.roundA ocQa All_lv 3000 Tryz.func59 mixed (All_l0_R p k ls ws) (by kernel_rfl) (by
  unfold All_l0_R
  refine g_iteD (fun h0 => ?_) (fun h0 => ?_)
  ·refine g_need (by first | exact ⟨rfl, rfl⟩ | omega | (constructor <;> omega) | rfl | (rw [i64_iff]; omega) | (rw [i64_iff]; constructor <;> omega) | (rw [i64_iff]; simp only [List.length_cons, List.length_nil]; omega) | (simp only [List.length_cons, List.length_nil]; omega)) ?_
   refine g_need (by first | exact ⟨rfl, rfl⟩ | omega | (constructor <;> omega) | rfl | (rw [i64_iff]; omega) | (rw [i64_iff]; constructor <;> omega) | (rw [i64_iff]; simp only [List.length_cons, List.length_nil]; omega) | (simp only [List.length_cons, List.length_nil]; omega)) ?_
   refine g_call (tries_fun (p.1.getD k tFn.dflt) (hj _ (getD_mem (α := EFn) (Ty.dflt tFn) (by omega))).1 (hj _ (getD_mem (α := EFn) (Ty.dflt tFn) (by omega))).2) (fun h => nomatch h) ?_
   refine g_need (by first | exact ⟨rfl, rfl⟩ | omega | (constructor <;> omega) | rfl | (rw [i64_iff]; omega) | (rw [i64_iff]; constructor <;> omega) | (rw [i64_iff]; simp only [List.length_cons, List.length_nil]; omega) | (simp only [List.length_cons, List.length_nil]; omega)) ?_
   refine g_need (by first | exact ⟨rfl, rfl⟩ | omega | (constructor <;> omega) | rfl | (rw [i64_iff]; omega) | (rw [i64_iff]; constructor <;> omega) | (rw [i64_iff]; simp only [List.length_cons, List.length_nil]; omega) | (simp only [List.length_cons, List.length_nil]; omega)) ?_
   refine g_need (by first | exact ⟨rfl, rfl⟩ | omega | (constructor <;> omega) | rfl | (rw [i64_iff]; omega) | (rw [i64_iff]; constructor <;> omega) | (rw [i64_iff]; simp only [List.length_cons, List.length_nil]; omega) | (simp only [List.length_cons, List.length_nil]; omega)) ?_
   refine g_need (by first | exact ⟨rfl, rfl⟩ | omega | (constructor <;> omega) | rfl | (rw [i64_iff]; omega) | (rw [i64_iff]; constructor <;> omega) | (rw [i64_iff]; simp only [List.length_cons, List.length_nil]; omega) | (simp only [List.length_cons, List.length_nil]; omega)) ?_
   refine g_need (by first | exact ⟨rfl, rfl⟩ | omega | (constructor <;> omega) | rfl | (rw [i64_iff]; omega) | (rw [i64_iff]; constructor <;> omega) | (rw [i64_iff]; simp only [List.length_cons, List.length_nil]; omega) | (simp only [List.length_cons, List.length_nil]; omega)) ?_
   refine g_need (by first | exact ⟨rfl, rfl⟩ | omega | (constructor <;> omega) | rfl | (rw [i64_iff]; omega) | (rw [i64_iff]; constructor <;> omega) | (rw [i64_iff]; simp only [List.length_cons, List.length_nil]; omega) | (simp only [List.length_cons, List.length_nil]; omega)) ?_
   refine g_need (by first | exact ⟨rfl, rfl⟩ | omega | (constructor <;> omega) | rfl | (rw [i64_iff]; omega) | (rw [i64_iff]; constructor <;> omega) | (rw [i64_iff]; simp only [List.length_cons, List.length_nil]; omega) | (simp only [List.length_cons, List.length_nil]; omega)) ?_
   refine g_stop (RunN.keep [4, 6] (F4 (true :: true :: F4 (F2 (true :: true :: true :: F16 (F4 ([])))))) n0 (by decide) rfl rfl ?_)
   have ht := All_l0 p (k + 1) (ls ++ [triesT (p.1.getD k tFn.dflt)]) (ws ++ [(triesF (toFn (p.1.getD k tFn.dflt)).code).seen]) hj hp (by simp; omega); have e1 : ls ++ allT (p.1.drop k) = (ls ++ [triesT (p.1.getD k (Ty.dflt tFn))]) ++ allT (p.1.drop (k + 1)) := (by rw [dropCons (α := EFn) (Ty.dflt tFn) (by omega)]; simp [allT]); have e2 : ws ++ allW (p.1.drop k) = (ws ++ [(triesF (toFn (p.1.getD k (Ty.dflt tFn))).code).seen]) ++ allW (p.1.drop (k + 1)) := (by rw [dropCons (α := EFn) (Ty.dflt tFn) (by omega)]; simp [allW]); rw [e1, e2]; exact ht
  ·refine g_rq ?_
   refine g_need (by first | exact ⟨rfl, rfl⟩ | omega | (constructor <;> omega) | rfl | (rw [i64_iff]; omega) | (rw [i64_iff]; constructor <;> omega) | (rw [i64_iff]; simp only [List.length_cons, List.length_nil]; omega) | (simp only [List.length_cons, List.length_nil]; omega)) ?_
   refine g_need (by first | exact ⟨rfl, rfl⟩ | omega | (constructor <;> omega) | rfl | (rw [i64_iff]; omega) | (rw [i64_iff]; constructor <;> omega) | (rw [i64_iff]; simp only [List.length_cons, List.length_nil]; omega) | (simp only [List.length_cons, List.length_nil]; omega)) ?_
   exact g_rl (⟨⟨rfl, (show (ls) = ls ++ allT (p.1.drop k) from by (rw [List.drop_eq_nil_of_le (by omega)]; simp [allT, allW]))⟩, ⟨rfl, (show (ws) = ws ++ allW (p.1.drop k) from by (rw [List.drop_eq_nil_of_le (by omega)]; simp [allT, allW]))⟩, trivial⟩) rfl
  )
 termination_by p.1.length - k
 decreasing_by all_goals omega
theorem All_fun (p : EProg) (hj : ∀ f ∈ p.1, jumpsOk (toFn f).code ∧ f.2.2.2.2.length ≤ 600) (hp : p.1.length ≤ 1000000) : AFun Tryz.prog 59 [.agg (tProg.enc p)] (.tup [.c (.ro (.slice (.slice tVal)) (allT p.1)), .c (.ro (.slice .bool) (allW p.1))]) :=
 AFun.of ocQa All_lv 3000 Tryz.func59 mixed rfl (by decide) (Nat.le_of_ble_eq_true rfl) (All_T p) (by kernel_rfl) fun hF => by
  unfold All_T
  refine g_stop (RunN.keep [1000, 1001] (F4 (true :: true :: F4 (F2 (true :: true :: true :: F16 (F4 ([])))))) n0 (by decide) rfl rfl ?_)
  refine RunN.less (env' := (J4 (.c (.osl 0 1 0) :: .c (.osl 1 1 0) :: J4 (J2 (.c (.ro tFn p.1) :: .c (.int .i64 (p.1.length : Int)) :: .c (.int .i64 ((0 : Nat) : Int)) :: J16 (J4 ([]))))))) (H' := [.ovec 197 (.slice (.slice tVal)) ([]), .ovec 156 (.slice .bool) ([])]) (leAVs.skip 4 rfl ⟨rfl, ⟨rfl, leAVs.same rfl⟩⟩) (⟨rfl, rfl, trivial⟩) ?_
  have ht := All_l0 p 0 ([]) ([]) hj hp (by simp); rw [List.drop_zero, List.nil_append, List.nil_append] at ht; exact ht

end Go.Proofs.YtkonkblfckhcbaaGreatDoor
namespace Go.Proofs.YtkonkblfckhcbaaGreatDoor
set_option maxHeartbeats 4000000
set_option linter.unusedVariables false
set_option linter.unusedSimpArgs false
set_option maxRecDepth 100000
theorem runF_ok {n : Nat} {code : List Ord} (hj : jumpsOk code) : ∀ (k : Nat) {st : St}, st.Ok n → (runF n code k st).Ok n
 | 0, st, h => h
 | k + 1, st, h => by
  unfold runF
  split
  ·exact h
  ·rename_i hq; exact runF_ok hj k (turnF_ok h hj (fun e => hq (.inl e))).1
theorem triesF_ok {code : List Ord} (hj : jumpsOk code) : (triesF code).Ok code.length := runF_ok hj _ (comeF_ok (init_ok _) 0 (by omega) _).1
theorem code_head {p : EProg} (h : codeF p = 0) : largeF (toProg p) = false ∧ okHead p = true ∧ p.1.any (badF p) = false := by
 unfold codeF at h
 split at h
 ·cases h
 ·rename_i h1
  split at h
  ·rename_i h2
   split at h
   ·cases h
   ·rename_i h3; exact ⟨by simpa using h1, h2, by simpa using h3⟩
  ·cases h
theorem code_jumps {p : EProg} (h : codeF p = 0) : ∀ f ∈ p.1, jumpsOk (toFn f).code ∧ f.2.2.2.2.length ≤ 600 := by
 intro f hf
 obtain ⟨h1, h2, h3⟩ := code_head h
 refine ⟨?_, (large_fns h1 f hf).1⟩
 have h4 := List.any_eq_false.1 h3 f hf
 unfold badF functionF at h4
 simp only [Bool.not_eq_true, Bool.not_eq_false', Bool.and_eq_true] at h4
 exact orders_jumps h4.1.2
theorem code_len {p : EProg} (h : codeF p = 0) : 0 < p.1.length ∧ p.1.length ≤ 60 := by
 obtain ⟨h1, h2, h3⟩ := code_head h
 constructor
 ·unfold okHead at h2
  split at h2
  ·split at h2
   ·cases h2
   ·omega
  ·cases h2
 ·unfold largeF at h1
  simp only [Bool.or_eq_false_iff] at h1
  have := of_decide_eq_false h1.1.1.1.1
  simp [toProg] at this
  exact this
theorem triesT_len {f : EFn} (hj : jumpsOk (toFn f).code) : (triesT f).length = f.2.2.2.2.length ∧ (triesF (toFn f).code).seen.length = f.2.2.2.2.length := by
 have h := triesF_ok hj
 have e : (toFn f).code.length = f.2.2.2.2.length := by simp [toFn]
 refine ⟨?_, by rw [h.ls, e]⟩
 unfold triesT
 rw [List.length_map, h.lo, e]
theorem code_look {p : EProg} (h : codeF p = 0) : lookOk p (allT p.1) (allW p.1) := by
 refine ⟨by simp [allT], by simp [allW], fun k hk => ?_⟩
 have hj := (code_jumps h _ (getD_mem (α := EFn) (Ty.dflt tFn) hk)).1
 have hz := triesT_len hj
 constructor
 ·rw [show (allT p.1).getD k (Ty.dflt (.slice (.slice tVal))) = triesT (p.1.getD k (Ty.dflt tFn)) from by simp [allT, List.getD, hk]]
  exact hz.1
 ·rw [show (allW p.1).getD k (Ty.dflt (.slice .bool)) = (triesF (toFn (p.1.getD k (Ty.dflt tFn))).code).seen from by simp [allW, List.getD, hk]]
  exact hz.2
theorem cck_parts {s : EState} (h : cckF s = 0) : clargeF s = false ∧ shCheck s.2.1 = 0 ∧ txGo s.2.2.1 0 (fun _ => none) = true ∧ (∀ x ∈ s.2.1, ck1F x s = false) ∧ (∀ c ∈ s.1, ck2F c s = false) ∧ (∀ v ∈ s.2.2.2.2.2.1, ck3F v s = false) ∧ ∀ e ∈ s.2.2.2.2.1, ck4F e s = false := by
 unfold cckF at h
 split at h
 ·cases h
 ·rename_i h0
  split at h
  ·rename_i h1
   split at h
   ·rename_i h2
    split at h
    ·cases h
    ·rename_i h3
     split at h
     ·cases h
     ·rename_i h4
      split at h
      ·cases h
      ·rename_i h5
       split at h
       ·cases h
       ·rename_i h6
        simp only [List.any_eq_true, not_exists, not_and, Bool.not_eq_true] at h3 h4 h5 h6
        exact ⟨by simpa using h0, h1, h2, h3, h4, h5, h6⟩
   ·cases h
  ·rename_i h1; exact absurd h h1
theorem cck_cell {s : EState} (h : cckF s = 0) : ∀ c ∈ s.1, ccellF c s = true := by
 intro c hc
 have := (cck_parts h).2.2.2.2.1 c hc
 unfold ck2F at this
 simpa using this
theorem ccell_45 {c : ECell} {s : EState} (h : ccellF c s = true) : (c.1 = 4 → 0 ≤ c.2.1) ∧ (c.1 = 5 → c.2.1 = 0 → 0 < c.2.2.2.length) := by
 constructor
 ·intro h4
  unfold ccellF at h
  rw [if_neg (by omega), if_neg (by omega), if_neg (by omega), if_neg (by omega), if_pos h4] at h
  split at h
  ·assumption
  ·cases h
 ·intro h5 h6
  unfold ccellF at h
  rw [if_neg (by omega), if_neg (by omega), if_neg (by omega), if_neg (by omega), if_neg (by omega), if_pos h5, if_pos h6] at h
  split at h
  ·split at h
   ·split at h
    ·omega
    ·cases h
   ·cases h
  ·cases h
theorem sck_le {s : EState} (h : List.any s.2.2.2.1 (fun t => sck1F t) = false) : ∀ t ∈ s.2.2.2.1, t.1.length ≤ 30 := by
 intro t ht
 have := List.any_eq_false.1 h t ht
 unfold sck1F at this
 simp at this
 omega
noncomputable def stckF (p : EProg) (s : EState) : Int :=
 if codeF p = 0 then
  if cckF s = 0 then
   if (5 : Int) < (s.2.2.2.1.length : Int) then
    2
   else
    if List.any s.2.2.2.1 (fun t => sck1F t) = true then
     2
    else
     if (rightF p (allT p.1) (allW p.1) s 0 (fun _ => none)).1 = true then
      0
     else
      3
  else
   cckF s
 else
  codeF p
noncomputable def ocRa : Orc where
 pure := fun f args => match f, args with
  | 55, [a0] => match dA tProg a0 with
   | some x0 => some (.c (.int .i64 (codeF x0)))
   | _ => none
  | 56, [a0] => match dA tState a0 with
   | some x0 => some (.c (.int .i64 (cckF x0)))
   | _ => none
  | 57, [a0, .one (.c (.fn0 58))] => match dA (.slice tThread) a0 with
   | some x0 => some (.c (.bool (List.any x0 (fun t => sck1F t))))
   | _ => none
  | 59, [a0] => match dA tProg a0 with
   | some x0 => some (.tup [.c (.ro (.slice (.slice tVal)) (allT x0.1)), .c (.ro (.slice .bool) (allW x0.1))])
   | _ => none
  | _, _ => none
 heap := fun f args H => match f, args with
  | 57, [a0, .one (.c (.fnc (.fn0 120) (.ptr b0 0 0 0)))] => (match cellsAs 117 H[b0]? with
   | some [.ptr b1 0 0 0] => (match cellsAs 123 H[b1]? with
   | some [c1_0_0, c1_0_1, c1_0_2, .ptr b2 0 0 0, c1_2, c1_3, .map b3] => (match cellsAs 40 H[b2]? with
   | some c2 => (match dA (.slice tThread) a0, dCs tProg [c1_0_0, c1_0_1, c1_0_2], dC (.slice (.slice (.slice tVal))) c1_2, dC (.slice (.slice .bool)) c1_3, dCs tState c2, mapAs 3 tI tI H[b3]? with
    | some x0, some y1_0, some y1_2, some y1_3, some y2_0, some (n3, y3) => hres [b0, b1, b2, b3] H (.c (.bool (decide (0 ≤ (ixGo x0 y1_0 y1_2 y1_3 y2_0 0 n3 y3).1)))) [.cells 117 [.ptr 1 0 0 0], .cells 123 [.ro tFn y1_0.1, .ro tVal y1_0.2.1, .ro .str y1_0.2.2, .ptr 2 0 0 0, .ro (.slice (.slice tVal)) y1_2, .ro (.slice .bool) y1_3, .map 3], .cells 40 (Ty.enc tState y2_0), .map 3 tI tI (ixGo x0 y1_0 y1_2 y1_3 y2_0 0 n3 y3).2.1 (ixGo x0 y1_0 y1_2 y1_3 y2_0 0 n3 y3).2.2]
    | _, _, _, _, _, _ => none)
   | _ => none)
   | _ => none)
   | _ => none)
  | 60, [.one (.c (.ptr b0 0 0 0))] => (match cellsAs 123 H[b0]? with
   | some [c0_0_0, c0_0_1, c0_0_2, .ptr b1 0 0 0, c0_2, c0_3, .map b2] => (match cellsAs 40 H[b1]? with
   | some c1 => (match dCs tProg [c0_0_0, c0_0_1, c0_0_2], dC (.slice (.slice (.slice tVal))) c0_2, dC (.slice (.slice .bool)) c0_3, dCs tState c1, mapAs 3 tI tI H[b2]? with
    | some y0_0, some y0_2, some y0_3, some y1_0, some (n2, y2) => hres [b0, b1, b2] H (.c (.bool ((rightF y0_0 y0_2 y0_3 y1_0 n2 y2).1))) [.cells 123 [.ro tFn y0_0.1, .ro tVal y0_0.2.1, .ro .str y0_0.2.2, .ptr 1 0 0 0, .ro (.slice (.slice tVal)) y0_2, .ro (.slice .bool) y0_3, .map 2], .cells 40 (Ty.enc tState y1_0), .map 3 tI tI (rightF y0_0 y0_2 y0_3 y1_0 n2 y2).2.1 (rightF y0_0 y0_2 y0_3 y1_0 n2 y2).2.2]
    | _, _, _, _, _ => none)
   | _ => none)
   | _ => none)
  | _, _ => none
def stck_lv : LV := ⟨([]), []⟩
abbrev gJj0 (p : EProg) : List CV := [.ro tFn p.1, .ro tVal p.2.1, .ro .str p.2.2, .ptr 1 0 0 0, .ro (.slice (.slice tVal)) (allT p.1), .ro (.slice .bool) (allW p.1), .map 2]
noncomputable def stck_T (p : EProg) (s : EState) : Tree :=
 .call 55 [.agg (Ty.enc tProg p)] false (.c (.int .i64 (codeF p))) <|
 .ite ((!(decide (codeF p = 0))))
 (.ret (.c (.int .i64 (codeF p))) [.cells 26 (Ty.enc tProg p), .cells 40 (Ty.enc tState s)])
 (.call 56 [.agg (Ty.enc tState s)] false (.c (.int .i64 (cckF s))) <|
  .ite ((!(decide (cckF s = 0))))
  (.ret (.c (.int .i64 (cckF s))) [.cells 26 (Ty.enc tProg p), .cells 40 (Ty.enc tState s)])
  (.ite (decide ((5 : Int) < (s.2.2.2.1.length : Int)))
  (.ret (.c (.int .i64 2)) [.cells 26 (Ty.enc tProg p), .cells 40 (Ty.enc tState s)])
  (.call 57 [.c (.ro tThread s.2.2.2.1), .c (.fn0 58)] false (.c (.bool (List.any s.2.2.2.1 (fun t => sck1F t)))) <|
   .ite (List.any s.2.2.2.1 (fun t => sck1F t))
   (.ret (.c (.int .i64 2)) [.cells 26 (Ty.enc tProg p), .cells 40 (Ty.enc tState s)])
   (.need (Tryz.prog = Tryz.prog) <|
   .call 59 [.agg (Ty.enc tProg p)] false (.tup [.c (.ro (.slice (.slice tVal)) (allT p.1)), .c (.ro (.slice .bool) (allW p.1))]) <|
   .callH 60 [.c (.ptr 3 0 0 0)] [.cells 26 (Ty.enc tProg p), .cells 40 (Ty.enc tState s), .map 3 tI tI 0 (fun _ => none), .cells 123 (gJj0 p)] (.c (.bool (rightF p (allT p.1) (allW p.1) s 0 (fun _ => none)).1)) [.cells 26 (Ty.enc tProg p), .cells 40 (Ty.enc tState s), .map 3 tI tI (rightF p (allT p.1) (allW p.1) s 0 (fun _ => none)).2.1 (rightF p (allT p.1) (allW p.1) s 0 (fun _ => none)).2.2, .cells 123 (gJj0 p)] [3, 1, 2] <|
   .ite ((!(rightF p (allT p.1) (allW p.1) s 0 (fun _ => none)).1))
   (.ret (.c (.int .i64 3)) [.cells 26 (Ty.enc tProg p), .cells 40 (Ty.enc tState s), .map 3 tI tI (rightF p (allT p.1) (allW p.1) s 0 (fun _ => none)).2.1 (rightF p (allT p.1) (allW p.1) s 0 (fun _ => none)).2.2, .cells 123 (gJj0 p)])
   (.ret (.c (.int .i64 0)) [.cells 26 (Ty.enc tProg p), .cells 40 (Ty.enc tState s), .map 3 tI tI (rightF p (allT p.1) (allW p.1) s 0 (fun _ => none)).2.1 (rightF p (allT p.1) (allW p.1) s 0 (fun _ => none)).2.2, .cells 123 (gJj0 p)])))))
theorem stck_fun (p : EProg) (s : EState) : AFun Tryz.prog 27 [.agg (tProg.enc p), .agg (tState.enc s)] (.c (.int .i64 (stckF p s))) :=
 AFun.of ocRa stck_lv 3000 Tryz.func27 mixed rfl (by decide) (Nat.le_of_ble_eq_true rfl) (stck_T p s) (by kernel_rfl) fun hF => by
  unfold stck_T
  refine e_start (stckF.eq_1 p s) ?_
  repeat' first
   | with_reducible refine e_B (fun _ => ?_) (fun _ => ?_)
   | with_reducible refine e_D (fun _ => ?_) (fun _ => ?_)
   | with_reducible refine e_NB (fun _ => ?_) (fun _ => ?_)
   | with_reducible refine e_ND (fun _ => ?_) (fun _ => ?_)
   | refine e_need (by first | omega | (constructor <;> omega) | (rw [i64_iff]; omega) | (rw [i64_iff]; constructor <;> omega) | rfl | (simp; done)) ?_
   | refine e_call (codeCheck_fun p) (fun h => nomatch h) ?_
   | refine e_call (cck_fun s) (fun h => nomatch h) ?_
   | refine e_call (jScC_fun s.2.2.2.1) (fun h => nomatch h) ?_
   | refine e_call (All_fun p (code_jumps (by assumption)) (by have := (code_len (p := p) (by assumption)).2; omega)) (fun h => nomatch h) ?_
   | refine e_callH (AFunH.frameB [3, 1, 2] (right_fun p (allT p.1) (allW p.1) s 0 (fun _ => none) (code_look (by assumption)) (code_len (by assumption)).1 (fun c hc => ccell_45 (cck_cell (by assumption) c hc)) (by omega) (fun x hx => by have := sck_le (by assumption) x hx; omega) (by omega)) rfl rfl rfl rfl rfl rfl rfl) ?_
   | exact fun hE => g_reti hE.symm

end Go.Proofs.YtkonkblfckhcbaaGreatDoor
namespace Go.Proofs.YtkonkblfckhcbaaGreatDoor
open Go.RowKit
/-- What such a function's end is to be, where what it tells stays its caller's own. -/
def finO (_P : Program) (n0 : Nat) (r : AV) (Ht : List AB) (v : AV) (H : List AB) : Prop := ∃ gl : List Nat, (∀ k, k < n0 → gl[k]? = some k) ∧ gl.Nodup ∧ leAV (renA gl v) r ∧ leHs (gl.map (fun b => renB gl (rgv H b))) Ht
theorem RunN.finO {n0 : Nat} {P : Program} {f : FuncId} {r : AV} {H Ht : List AB} {todo : List Item} {env : List AV} (h : RunN n0 P f (finO P n0 r Ht) todo env H) : RunN n0 P f (fun v H' => v = r ∧ H' = Ht) todo env H := fun σ0 G0 W b a w cs h0 h1 h2 h3 => by
 obtain ⟨v, w', fr, r1, H', σ', ⟨gl, g1, g2, g3, g4⟩, q2, q3, q4, q5, q6, q7⟩ := h σ0 G0 W b a w cs h0 h1 h2 h3
 obtain ⟨k1, k2⟩ := keep_rel gl g1 g2 h0 q3 q4
 obtain ⟨hl, hB⟩ := g4.to
 refine ⟨v, w', fr, r, Ht, renS gl σ', ⟨rfl, rfl⟩, fun n hn => ?_, k1.le hB, k2.le hB, g3.to _ _ _ (renA_ok q5), q6, q7⟩
 rw [← hl]
 simpa using hn.1
section
variable {P : Program} {f : Nat} {fn : Func} {body : Code} {args : List AV} {r : AV} {H Ht : List AB}
theorem AFunH.ofLO (oc : Orc) (lv : LV) (n : Nat) (hf : P.funcs[f]? = some fn) (hm : P.follows .mixedOrders = true) (hb : fn.body = some body) (hn : (fn.name == "runtime.NumGoroutine") = false) (hl : args.length ≤ fn.ntmps)
  (ha : args.map (renA (List.range H.length)) = args) (hH : (List.range H.length).map (fun b => renB (List.range H.length) (rgv H b)) = H) (hle : H.length ≤ Ht.length) (T : Tree)
  (hT : aRun P oc fn lv n [.code body] (args ++ List.replicate (fn.ntmps - args.length) .junk) H = T)
  (h : FactsH args H → Good P (RunN H.length P f (absQ (finO P H.length r Ht))) (absQ (finO P H.length r Ht)) T) : AFunH P f args H r Ht (List.range Ht.length) :=
 .of_run2 hf hb hn hl ha hH hle fun hF => RunN.finO (RunN.unabs (run_of hf hm n _ _ _ (by rw [hT]; exact h hF)))
end
theorem g_endO {P : Program} {S : List Item → List AV → List AB → Prop} {n0 : Nat} {r : AV} {Ht : List AB} {v : AV} {H : List AB} (gl : List Nat) (h1 : ∀ k, k < n0 → gl[k]? = some k) (h2 : gl.Nodup) (h3 : leAV (renA gl v) r) (h4 : leHs (gl.map (fun b => renB gl (rgv H b))) Ht) : Good P S (finO P n0 r Ht) (.ret v H) := ⟨gl, h1, h2, h3, h4⟩
theorem g_ab0 {P : Program} {S : List Item → List AV → List AB → Prop} {Q : AV → List AB → Prop} {v : AV} {H : List AB} (h : Good P S Q (.ret v H)) : Good P S (absQ Q) (.ret v H) := ⟨H, .refl _, h⟩
end Go.Proofs.YtkonkblfckhcbaaGreatDoor
