/- What the laws' texts lean on, part 6: lemmas and the contracts of functions. No condition. -/
import Derived.Test.YtefkifdhjabdiaaDoorM4
import Derived.Test.YtefkifdhjabdiaaDoorM3
namespace Go.Proofs.YtefkifdhjabdiaaDoor
set_option maxHeartbeats 4000000
set_option linter.unusedVariables false
set_option linter.unusedSimpArgs false
set_option maxRecDepth 100000
theorem never_all {t : ETrace} (hd : DomC t) (hL : t.2.2.2.1.length ≤ 300) {n : Nat} {m : EVal → Option EVal} {i : Int} (hm : KeptOk t (n, m)) (hi : 0 ≤ i ∧ i < (t.2.2.2.1.length : Int)) (ho : (insV t i).1 = 7 ∨ (insV t i).1 = 8) :
  AFunH Tryd.prog 65 [.c (.ptr 0 0 0 0), .c (.int .i64 i)] [.cells 128 (Ty.enc tTrace t ++ [.map 1]), .map 164 tVal tVal n m] (.c (.bool (neverM (spanM t t.2.2.2.1.length) t i (n, m)).1)) [.cells 128 (Ty.enc tTrace t ++ [.map 1]), .map 164 tVal tVal (neverM (spanM t t.2.2.2.1.length) t i (n, m)).2.1 (neverM (spanM t t.2.2.2.1.length) t i (n, m)).2.2] (List.range 2) :=
 never_fun t n m i t.2.2.2.1.length (t.2.2.2.1.length : Int) hd (fun v a n' m' q0 q1 q2 q3 => span_all hd hL _ v a n' m' (by omega) q0 q1 (by omega) q3) (by omega) (Int.le_refl _) hm hi ho
def dropE (t : ETrace) (i : Int) (x : EIns) : EIns := if (x.1 = 7 ∨ x.1 = 8) ∧ 0 ≤ x.2.2.2.2.2.1 ∧ neverF t i = true then (x.1, x.2.1, x.2.2.1, x.2.2.2.1, x.2.2.2.2.1, -1, x.2.2.2.2.2.2) else x
def outI (t : ETrace) : List EIns := (List.range t.2.2.2.1.length).map fun j : Nat => dropE t j (t.2.2.2.1.getD j tIns.dflt)
def spanOut (t : ETrace) : ETrace := (t.1, t.2.1, t.2.2.1, outI t, t.2.2.2.2)
noncomputable def spanDo (p : EProg) (t : ETrace) : ETrace × Int := if checkF p t = 0 then cutF (spanOut t) (iota t.2.2.2.1.length) else (noT, checkF p t)
theorem drop_no1 {t : ETrace} {i : Int} {x : EIns} (h : ¬ ((x.1 = 7 ∨ x.1 = 8) ∧ 0 ≤ x.2.2.2.2.2.1)) : dropE t i x = x := if_neg fun q => h ⟨q.1, q.2.1⟩
theorem drop_no2 {t : ETrace} {i : Int} {x : EIns} (h : neverF t i = false) : dropE t i x = x := if_neg fun q => by rw [h] at q; exact absurd q.2.2 (by decide)
theorem drop_yes {t : ETrace} {i : Int} {x : EIns} (h : x.1 = 7 ∨ x.1 = 8) (h1 : 0 ≤ x.2.2.2.2.2.1) (h2 : neverF t i = true) : dropE t i x = (x.1, x.2.1, x.2.2.1, x.2.2.2.1, x.2.2.2.2.1, -1, x.2.2.2.2.2.2) := if_pos ⟨h, h1, h2⟩
def ToI (n i : Nat) (to : List Int) : Prop := to.length = n ∧ ∀ j, j < i → to.getD j tI.dflt = (j : Int)
def InI (t : ETrace) (i : Nat) (l : List EIns) : Prop := l.length = t.2.2.2.1.length ∧ ∀ j, j < t.2.2.2.1.length → l.getD j tIns.dflt = if j < i then dropE t j (t.2.2.2.1.getD j tIns.dflt) else t.2.2.2.1.getD j tIns.dflt
theorem getD_set {α : Type} {l : List α} {i j : Nat} {v d : α} (hi : i < l.length) : (l.set i v).getD j d = if j = i then v else l.getD j d := by
 simp only [List.getD_eq_getElem?_getD, List.getElem?_set]
 by_cases h : i = j
 ·subst h; simp [hi]
 ·simp [h, Ne.symm h]
theorem ToI.step {n i : Nat} {to : List Int} (h : ToI n i to) (hi : i < n) : ToI n (i + 1) (to.set i (i : Int)) := by
 refine ⟨by rw [List.length_set]; exact h.1, fun j hj => ?_⟩
 rw [getD_set (by rw [h.1]; exact hi)]
 split
 ·rename_i e; rw [e]
 ·exact h.2 j (by omega)
theorem ToI.step0 {n i : Nat} {to : List Int} (h : ToI n i to) (hi : i < n) : ToI n (i + 1) (to.set (0 + i) (i : Int)) := by rw [Nat.zero_add]; exact h.step hi
theorem ToI.done {n : Nat} {to : List Int} (h : ToI n n to) : to = iota n := by
 apply List.ext_getElem
 ·rw [h.1, iota_len]
 ·intro j h1 h2
  have h3 := h.2 j (by rw [h.1] at h1; exact h1)
  rw [List.getD_eq_getElem?_getD, List.getElem?_eq_getElem h1] at h3
  have h3 : to[j] = (j : Int) := h3
  rw [h3]
  simp [iota]
theorem InI.start (t : ETrace) : InI t 0 t.2.2.2.1 := ⟨rfl, fun j _ => by rw [if_neg (by omega)]⟩
theorem InI.no {t : ETrace} {i : Nat} {l : List EIns} (h : InI t i l) (hi : i < t.2.2.2.1.length) (hx : dropE t i (t.2.2.2.1.getD i tIns.dflt) = t.2.2.2.1.getD i tIns.dflt) : InI t (i + 1) l := by
 refine ⟨h.1, fun j hj => ?_⟩
 rw [h.2 j hj]
 by_cases e : j = i
 ·subst e; rw [if_neg (by omega), if_pos (by omega), hx]
 ·by_cases hlt : j < i
  ·rw [if_pos hlt, if_pos (by omega)]
  ·rw [if_neg hlt, if_neg (by omega)]
theorem InI.at_ {t : ETrace} {i : Nat} {l : List EIns} (h : InI t i l) (hi : i < t.2.2.2.1.length) : l.getD i tIns.dflt = t.2.2.2.1.getD i tIns.dflt := by rw [h.2 i hi, if_neg (by omega)]
theorem InI.yes {t : ETrace} {i : Nat} {l : List EIns} (h : InI t i l) (hi : i < t.2.2.2.1.length) {v : EIns} (hx : dropE t i (t.2.2.2.1.getD i tIns.dflt) = v) : InI t (i + 1) (l.set i v) := by
 refine ⟨by rw [List.length_set]; exact h.1, fun j hj => ?_⟩
 rw [getD_set (by rw [h.1]; exact hi)]
 by_cases e : j = i
 ·subst e; rw [if_pos rfl, if_pos (by omega), hx]
 ·rw [if_neg e, h.2 j hj]
  by_cases hlt : j < i
  ·rw [if_pos hlt, if_pos (by omega)]
  ·rw [if_neg hlt, if_neg (by omega)]
theorem InI.done {t : ETrace} {l : List EIns} (h : InI t t.2.2.2.1.length l) : l = outI t := by
 apply List.ext_getElem
 ·rw [h.1]; simp [outI]
 ·intro j h1 h2
  have hj : j < t.2.2.2.1.length := by rw [h.1] at h1; exact h1
  have h3 := h.2 j hj
  rw [if_pos hj, List.getD_eq_getElem?_getD, List.getElem?_eq_getElem h1] at h3
  have h3 : l[j] = dropE t j (t.2.2.2.1.getD j tIns.dflt) := h3
  rw [h3]
  simp [outI]
theorem sm_out {t : ETrace} {l : List EIns} (h : traceSm t) (hl : l.length = t.2.2.2.1.length) : traceSm (t.1, t.2.1, t.2.2.1, l, t.2.2.2.2) := ⟨by rw [show (t.1, t.2.1, t.2.2.1, l, t.2.2.2.2).2.2.2.1 = l from rfl, hl]; exact h.1, h.2⟩
noncomputable def oc112 : Orc where
 pure := fun f args => match f, args with
  | 17, [a0, a1] => match dA tProg a0, dA tTrace a1 with
   | some x0, some x1 => some (.c (.int .i64 (checkF x0 x1)))
   | _, _ => none
  | 22, [a0, a1] => match dA tTrace a0, dA (.slice tI) a1 with
   | some x0, some x1 => some (.tup [.agg (Ty.enc tTrace ((cutF x0 x1).1)), .c (.int .i64 ((cutF x0 x1).2))])
   | _, _ => none
  | _, _ => none
 heap := fun f args H => match f, args with
  | 64, [a0] => (match dA (.slice tIns) a0 with
    | some x0 => hres [] H (.c (.osl 0 8 x0.length)) [.ovec 46 tIns x0]
    | _ => none)
  | 65, [.one (.c (.ptr b0 0 0 0)), a1] => match cellsAs 128 H[b0]? with
   | some [c0_0_0, c0_0_1, c0_0_2, c0_0_3, c0_0_4, c0_0_5, c0_0_6, c0_0_7, c0_0_8, c0_0_9, c0_0_10, c0_0_11, c0_0_12, .map b1] => (match dA tI a1, dCs tTrace [c0_0_0, c0_0_1, c0_0_2, c0_0_3, c0_0_4, c0_0_5, c0_0_6, c0_0_7, c0_0_8, c0_0_9, c0_0_10, c0_0_11, c0_0_12], mapAs 164 tVal tVal H[b1]? with
    | some x1, some y0_0, some (n1, y1) => hres [b0, b1] H (.c (.bool ((neverM (spanM y0_0 y0_0.2.2.2.1.length) y0_0 x1 (n1, y1)).1))) [.cells 128 [.int .i64 y0_0.1, .int .i64 y0_0.2.1, .int .i64 y0_0.2.2.1, .ro tIns y0_0.2.2.2.1, .ro tExit y0_0.2.2.2.2.1, .int .i64 y0_0.2.2.2.2.2.1.1, .int .i64 y0_0.2.2.2.2.2.1.2.1, .ro tVal y0_0.2.2.2.2.2.1.2.2.1, .ro tMake y0_0.2.2.2.2.2.1.2.2.2, .int .i64 y0_0.2.2.2.2.2.2.1, .int .i64 y0_0.2.2.2.2.2.2.2.1, .ro tVal y0_0.2.2.2.2.2.2.2.2.1, .ro tMake y0_0.2.2.2.2.2.2.2.2.2, .map 1], .map 164 tVal tVal (neverM (spanM y0_0 y0_0.2.2.2.1.length) y0_0 x1 (n1, y1)).2.1 (neverM (spanM y0_0 y0_0.2.2.2.1.length) y0_0 x1 (n1, y1)).2.2]
    | _, _, _ => none)
   | _ => none
  | _, _ => none
def spando_lv : LV := ⟨(F4 (true :: F2 (true :: true :: true :: F16 (F4 (F2 (false :: true :: true :: true :: F32 (F4 (false :: [])))))))), []⟩
abbrev bDe1 (t : ETrace) : AB := .cells 128 [.int .i64 t.1, .int .i64 t.2.1, .int .i64 t.2.2.1, .ro tIns t.2.2.2.1, .ro tExit t.2.2.2.2.1, .int .i64 t.2.2.2.2.2.1.1, .int .i64 t.2.2.2.2.2.1.2.1, .ro tVal t.2.2.2.2.2.1.2.2.1, .ro tMake t.2.2.2.2.2.1.2.2.2, .int .i64 t.2.2.2.2.2.2.1, .int .i64 t.2.2.2.2.2.2.2.1, .ro tVal t.2.2.2.2.2.2.2.2.1, .ro tMake t.2.2.2.2.2.2.2.2.2, .map 3]
abbrev bDe6 : AB := .cells 29 [.int .i64 0, .int .i64 0, .int .i64 0, .nilsl, .nilsl, .int .i64 0, .int .i64 0, .nilsl, .nilsl, .int .i64 0, .int .i64 0, .nilsl, .nilsl]
noncomputable def spando_T (p : EProg) (t : ETrace) : Tree :=
 .call 17 [.agg (Ty.enc tProg p), .agg (Ty.enc tTrace t)] false (.c (.int .i64 (checkF p t))) <|
 .ite ((!(decide (checkF p t = 0))))
 (.ret (.tup [.agg [.int .i64 0, .int .i64 0, .int .i64 0, .nilsl, .nilsl, .int .i64 0, .int .i64 0, .nilsl, .nilsl, .int .i64 0, .int .i64 0, .nilsl, .nilsl], .c (.int .i64 (checkF p t))]) [.cells 39 (Ty.enc tProg p), .cells 29 (Ty.enc tTrace t), bDe6])
 (.need (Tryd.prog = Tryd.prog) <|
  .need ((0 : Int) ≤ (t.2.2.2.1.length : Int) ∧ ((t.2.2.2.1.length : Int) : Int) ≤ (t.2.2.2.1.length : Int) ∧ ((t.2.2.2.1.length : Int) : Int) ≤ 140737488355328 ∧ (8 : Int) * (t.2.2.2.1.length : Int) ≤ 140737488355328) <|
  .callH 64 [.c (.ro tIns t.2.2.2.1)] [.cells 39 (Ty.enc tProg p), .cells 29 (Ty.enc tTrace t), bDe6, .map 164 tVal tVal 0 (fun _ => none), (bDe1 t), .vec 3 tI (List.replicate t.2.2.2.1.length 0), .cells 29 (Ty.enc tTrace t)] (.c (.osl 7 8 t.2.2.2.1.length)) [.cells 39 (Ty.enc tProg p), .cells 29 (Ty.enc tTrace t), bDe6, .map 164 tVal tVal 0 (fun _ => none), (bDe1 t), .vec 3 tI (List.replicate t.2.2.2.1.length 0), .cells 29 (Ty.enc tTrace t), .ovec 46 tIns t.2.2.2.1] [7] <|
  .stop (lp (bodyOf Tryd.f32) 0) (J4 (.c (.ptr 2 0 0 0) :: J2 (.c (.ptr 4 0 0 0) :: .c (.sl 5 1 0 t.2.2.2.1.length) :: .c (.ptr 6 0 0 0) :: J16 (J4 (J2 (.junk :: .c (.ro tIns t.2.2.2.1) :: .c (.int .i64 (t.2.2.2.1.length : Int)) :: .c (.int .i64 0) :: J32 (J4 (.junk :: [])))))))) [.cells 39 (Ty.enc tProg p), .cells 29 (Ty.enc tTrace t), bDe6, .map 164 tVal tVal 0 (fun _ => none), (bDe1 t), .vec 3 tI (List.replicate t.2.2.2.1.length 0), .cells 29 [.int .i64 t.1, .int .i64 t.2.1, .int .i64 t.2.2.1, .osl 7 8 t.2.2.2.1.length, .ro tExit t.2.2.2.2.1, .int .i64 t.2.2.2.2.2.1.1, .int .i64 t.2.2.2.2.2.1.2.1, .ro tVal t.2.2.2.2.2.1.2.2.1, .ro tMake t.2.2.2.2.2.1.2.2.2, .int .i64 t.2.2.2.2.2.2.1, .int .i64 t.2.2.2.2.2.2.2.1, .ro tVal t.2.2.2.2.2.2.2.2.1, .ro tMake t.2.2.2.2.2.2.2.2.2], .ovec 46 tIns t.2.2.2.1])
theorem spando_T_ok (p : EProg) (t : ETrace) : aRun Tryd.prog oc112 Tryd.f32 spando_lv 3000 [.code (bodyOf Tryd.f32)] ([.agg (tProg.enc p), .agg (tTrace.enc t)] ++ List.replicate (Func.ntmps Tryd.f32 - 2) .junk) [] = spando_T p t := by kernel_rfl
abbrev bDe0 (t : ETrace) (i : Nat) : AB := .cells 46 [.int .i64 (t.2.2.2.1.getD i tIns.dflt).1, .int .i64 (t.2.2.2.1.getD i tIns.dflt).2.1, .int .i64 (t.2.2.2.1.getD i tIns.dflt).2.2.1, .int .i64 (t.2.2.2.1.getD i tIns.dflt).2.2.2.1, .int .i64 (t.2.2.2.1.getD i tIns.dflt).2.2.2.2.1, .int .i64 (t.2.2.2.1.getD i tIns.dflt).2.2.2.2.2.1, .int .i64 (t.2.2.2.1.getD i tIns.dflt).2.2.2.2.2.2.1, .int .i64 (t.2.2.2.1.getD i tIns.dflt).2.2.2.2.2.2.2]
abbrev bDe2 (t : ETrace) : AB := .cells 29 [.int .i64 t.1, .int .i64 t.2.1, .int .i64 t.2.2.1, .osl 5 8 t.2.2.2.1.length, .ro tExit t.2.2.2.2.1, .int .i64 t.2.2.2.2.2.1.1, .int .i64 t.2.2.2.2.2.1.2.1, .ro tVal t.2.2.2.2.2.1.2.2.1, .ro tMake t.2.2.2.2.2.1.2.2.2, .int .i64 t.2.2.2.2.2.2.1, .int .i64 t.2.2.2.2.2.2.2.1, .ro tVal t.2.2.2.2.2.2.2.2.1, .ro tMake t.2.2.2.2.2.2.2.2.2]
abbrev bDe3 (t : ETrace) (i : Nat) : List AV := (J4 (.c (.ptr 0 0 0 0) :: J2 (.c (.ptr 2 0 0 0) :: .c (.sl 3 1 0 t.2.2.2.1.length) :: .c (.ptr 4 0 0 0) :: J16 (J4 (J2 (.junk :: .c (.ro tIns t.2.2.2.1) :: .c (.int .i64 (t.2.2.2.1.length : Int)) :: .c (.int .i64 (((i : Nat) : Int) + 1)) :: J32 (J4 (.junk :: []))))))))
noncomputable def spando_l0_R (p : EProg) (t : ETrace) (i : Nat) (n : Nat) (m : EVal → Option EVal) (to : List Int) (ins : List EIns) : Tree :=
 .ite (decide (((i : Nat) : Int) < (t.2.2.2.1.length : Int)))
 (.need ((0 : Int) ≤ ((i : Nat) : Int) ∧ (((i : Nat) : Int) : Int) < (t.2.2.2.1.length : Int)) <|
  .need (i < t.2.2.2.1.length) <|
  .need ((0 : Int) ≤ ((i : Nat) : Int) ∧ (((i : Nat) : Int) : Int) < ((t.2.2.2.1.length : Nat) : Int)) <|
  .need ((0 + i) < to.length) <|
  .ite (decide ((t.2.2.2.1.getD i tIns.dflt).1 = 7))
  (.ite (decide ((0 : Int) ≤ (t.2.2.2.1.getD i tIns.dflt).2.2.2.2.2.1))
  (.callH 65 [.c (.ptr 2 0 0 0), .c (.int .i64 ((i : Nat) : Int))] [bDe6, .map 164 tVal tVal n m, .cells 128 (Ty.enc tTrace t ++ [.map 1]), .vec 3 tI (to.set (0 + i) ((i : Nat) : Int)), (bDe2 t), .ovec 46 tIns ins, (bDe0 t i)] (.c (.bool (neverM (spanM t t.2.2.2.1.length) t ((i : Nat) : Int) (n, m)).1)) [bDe6, .map 164 tVal tVal (neverM (spanM t t.2.2.2.1.length) t ((i : Nat) : Int) (n, m)).2.1 (neverM (spanM t t.2.2.2.1.length) t ((i : Nat) : Int) (n, m)).2.2, .cells 128 (Ty.enc tTrace t ++ [.map 1]), .vec 3 tI (to.set (0 + i) ((i : Nat) : Int)), (bDe2 t), .ovec 46 tIns ins, (bDe0 t i)] [2, 1] <|
   .ite ((neverM (spanM t t.2.2.2.1.length) t ((i : Nat) : Int) (n, m)).1)
   (.need ((0 : Int) ≤ ((i : Nat) : Int) ∧ (((i : Nat) : Int) : Int) < ((t.2.2.2.1.length : Nat) : Int)) <|
   .need (i < ins.length) <|
   .need (inR .i64 (((i : Nat) : Int) + 1)) <|
   .stop (lp (bodyOf Tryd.f32) 0) (bDe3 t i) [bDe6, .map 164 tVal tVal (neverM (spanM t t.2.2.2.1.length) t ((i : Nat) : Int) (n, m)).2.1 (neverM (spanM t t.2.2.2.1.length) t ((i : Nat) : Int) (n, m)).2.2, .cells 128 (Ty.enc tTrace t ++ [.map 1]), .vec 3 tI (to.set (0 + i) ((i : Nat) : Int)), (bDe2 t), .ovec 46 tIns (ins.set i ((ins.getD i tIns.dflt).1, ((ins.getD i tIns.dflt).2.1, ((ins.getD i tIns.dflt).2.2.1, ((ins.getD i tIns.dflt).2.2.2.1, ((ins.getD i tIns.dflt).2.2.2.2.1, ((-1), (ins.getD i tIns.dflt).2.2.2.2.2.2))))))), (bDe0 t i)])
   (.need (inR .i64 (((i : Nat) : Int) + 1)) <|
   .stop (lp (bodyOf Tryd.f32) 0) (bDe3 t i) [bDe6, .map 164 tVal tVal (neverM (spanM t t.2.2.2.1.length) t ((i : Nat) : Int) (n, m)).2.1 (neverM (spanM t t.2.2.2.1.length) t ((i : Nat) : Int) (n, m)).2.2, .cells 128 (Ty.enc tTrace t ++ [.map 1]), .vec 3 tI (to.set (0 + i) ((i : Nat) : Int)), (bDe2 t), .ovec 46 tIns ins, (bDe0 t i)]))
  (.need (inR .i64 (((i : Nat) : Int) + 1)) <|
   .stop (lp (bodyOf Tryd.f32) 0) (bDe3 t i) [bDe6, .map 164 tVal tVal n m, .cells 128 (Ty.enc tTrace t ++ [.map 1]), .vec 3 tI (to.set (0 + i) ((i : Nat) : Int)), (bDe2 t), .ovec 46 tIns ins, (bDe0 t i)]))
  (.ite (decide ((t.2.2.2.1.getD i tIns.dflt).1 = 8))
  (.ite (decide ((0 : Int) ≤ (t.2.2.2.1.getD i tIns.dflt).2.2.2.2.2.1))
   (.callH 65 [.c (.ptr 2 0 0 0), .c (.int .i64 ((i : Nat) : Int))] [bDe6, .map 164 tVal tVal n m, .cells 128 (Ty.enc tTrace t ++ [.map 1]), .vec 3 tI (to.set (0 + i) ((i : Nat) : Int)), (bDe2 t), .ovec 46 tIns ins, (bDe0 t i)] (.c (.bool (neverM (spanM t t.2.2.2.1.length) t ((i : Nat) : Int) (n, m)).1)) [bDe6, .map 164 tVal tVal (neverM (spanM t t.2.2.2.1.length) t ((i : Nat) : Int) (n, m)).2.1 (neverM (spanM t t.2.2.2.1.length) t ((i : Nat) : Int) (n, m)).2.2, .cells 128 (Ty.enc tTrace t ++ [.map 1]), .vec 3 tI (to.set (0 + i) ((i : Nat) : Int)), (bDe2 t), .ovec 46 tIns ins, (bDe0 t i)] [2, 1] <|
   .ite ((neverM (spanM t t.2.2.2.1.length) t ((i : Nat) : Int) (n, m)).1)
   (.need ((0 : Int) ≤ ((i : Nat) : Int) ∧ (((i : Nat) : Int) : Int) < ((t.2.2.2.1.length : Nat) : Int)) <|
    .need (i < ins.length) <|
    .need (inR .i64 (((i : Nat) : Int) + 1)) <|
    .stop (lp (bodyOf Tryd.f32) 0) (bDe3 t i) [bDe6, .map 164 tVal tVal (neverM (spanM t t.2.2.2.1.length) t ((i : Nat) : Int) (n, m)).2.1 (neverM (spanM t t.2.2.2.1.length) t ((i : Nat) : Int) (n, m)).2.2, .cells 128 (Ty.enc tTrace t ++ [.map 1]), .vec 3 tI (to.set (0 + i) ((i : Nat) : Int)), (bDe2 t), .ovec 46 tIns (ins.set i ((ins.getD i tIns.dflt).1, ((ins.getD i tIns.dflt).2.1, ((ins.getD i tIns.dflt).2.2.1, ((ins.getD i tIns.dflt).2.2.2.1, ((ins.getD i tIns.dflt).2.2.2.2.1, ((-1), (ins.getD i tIns.dflt).2.2.2.2.2.2))))))), (bDe0 t i)])
   (.need (inR .i64 (((i : Nat) : Int) + 1)) <|
    .stop (lp (bodyOf Tryd.f32) 0) (bDe3 t i) [bDe6, .map 164 tVal tVal (neverM (spanM t t.2.2.2.1.length) t ((i : Nat) : Int) (n, m)).2.1 (neverM (spanM t t.2.2.2.1.length) t ((i : Nat) : Int) (n, m)).2.2, .cells 128 (Ty.enc tTrace t ++ [.map 1]), .vec 3 tI (to.set (0 + i) ((i : Nat) : Int)), (bDe2 t), .ovec 46 tIns ins, (bDe0 t i)]))
   (.need (inR .i64 (((i : Nat) : Int) + 1)) <|
   .stop (lp (bodyOf Tryd.f32) 0) (bDe3 t i) [bDe6, .map 164 tVal tVal n m, .cells 128 (Ty.enc tTrace t ++ [.map 1]), .vec 3 tI (to.set (0 + i) ((i : Nat) : Int)), (bDe2 t), .ovec 46 tIns ins, (bDe0 t i)]))
  (.need (inR .i64 (((i : Nat) : Int) + 1)) <|
   .stop (lp (bodyOf Tryd.f32) 0) (bDe3 t i) [bDe6, .map 164 tVal tVal n m, .cells 128 (Ty.enc tTrace t ++ [.map 1]), .vec 3 tI (to.set (0 + i) ((i : Nat) : Int)), (bDe2 t), .ovec 46 tIns ins, (bDe0 t i)])))
 (.need (t.2.2.2.1.length = ins.length) <|
  .need (0 = 0 ∧ t.2.2.2.1.length = to.length) <|
  .call 22 [.agg [.int .i64 t.1, .int .i64 t.2.1, .int .i64 t.2.2.1, .ro tIns ins, .ro tExit t.2.2.2.2.1, .int .i64 t.2.2.2.2.2.1.1, .int .i64 t.2.2.2.2.2.1.2.1, .ro tVal t.2.2.2.2.2.1.2.2.1, .ro tMake t.2.2.2.2.2.1.2.2.2, .int .i64 t.2.2.2.2.2.2.1, .int .i64 t.2.2.2.2.2.2.2.1, .ro tVal t.2.2.2.2.2.2.2.2.1, .ro tMake t.2.2.2.2.2.2.2.2.2], .c (.ro tI to)] false (.tup [.agg [.int .i64 (cutF (t.1, (t.2.1, (t.2.2.1, (ins, t.2.2.2.2)))) to).1.1, .int .i64 (cutF (t.1, (t.2.1, (t.2.2.1, (ins, t.2.2.2.2)))) to).1.2.1, .int .i64 (cutF (t.1, (t.2.1, (t.2.2.1, (ins, t.2.2.2.2)))) to).1.2.2.1, .ro tIns (cutF (t.1, (t.2.1, (t.2.2.1, (ins, t.2.2.2.2)))) to).1.2.2.2.1, .ro tExit (cutF (t.1, (t.2.1, (t.2.2.1, (ins, t.2.2.2.2)))) to).1.2.2.2.2.1, .int .i64 (cutF (t.1, (t.2.1, (t.2.2.1, (ins, t.2.2.2.2)))) to).1.2.2.2.2.2.1.1, .int .i64 (cutF (t.1, (t.2.1, (t.2.2.1, (ins, t.2.2.2.2)))) to).1.2.2.2.2.2.1.2.1, .ro tVal (cutF (t.1, (t.2.1, (t.2.2.1, (ins, t.2.2.2.2)))) to).1.2.2.2.2.2.1.2.2.1, .ro tMake (cutF (t.1, (t.2.1, (t.2.2.1, (ins, t.2.2.2.2)))) to).1.2.2.2.2.2.1.2.2.2, .int .i64 (cutF (t.1, (t.2.1, (t.2.2.1, (ins, t.2.2.2.2)))) to).1.2.2.2.2.2.2.1, .int .i64 (cutF (t.1, (t.2.1, (t.2.2.1, (ins, t.2.2.2.2)))) to).1.2.2.2.2.2.2.2.1, .ro tVal (cutF (t.1, (t.2.1, (t.2.2.1, (ins, t.2.2.2.2)))) to).1.2.2.2.2.2.2.2.2.1, .ro tMake (cutF (t.1, (t.2.1, (t.2.2.1, (ins, t.2.2.2.2)))) to).1.2.2.2.2.2.2.2.2.2], .c (.int .i64 (cutF (t.1, (t.2.1, (t.2.2.1, (ins, t.2.2.2.2)))) to).2)]) <|
  .ret (.tup [.agg [.int .i64 (cutF (t.1, (t.2.1, (t.2.2.1, (ins, t.2.2.2.2)))) to).1.1, .int .i64 (cutF (t.1, (t.2.1, (t.2.2.1, (ins, t.2.2.2.2)))) to).1.2.1, .int .i64 (cutF (t.1, (t.2.1, (t.2.2.1, (ins, t.2.2.2.2)))) to).1.2.2.1, .ro tIns (cutF (t.1, (t.2.1, (t.2.2.1, (ins, t.2.2.2.2)))) to).1.2.2.2.1, .ro tExit (cutF (t.1, (t.2.1, (t.2.2.1, (ins, t.2.2.2.2)))) to).1.2.2.2.2.1, .int .i64 (cutF (t.1, (t.2.1, (t.2.2.1, (ins, t.2.2.2.2)))) to).1.2.2.2.2.2.1.1, .int .i64 (cutF (t.1, (t.2.1, (t.2.2.1, (ins, t.2.2.2.2)))) to).1.2.2.2.2.2.1.2.1, .ro tVal (cutF (t.1, (t.2.1, (t.2.2.1, (ins, t.2.2.2.2)))) to).1.2.2.2.2.2.1.2.2.1, .ro tMake (cutF (t.1, (t.2.1, (t.2.2.1, (ins, t.2.2.2.2)))) to).1.2.2.2.2.2.1.2.2.2, .int .i64 (cutF (t.1, (t.2.1, (t.2.2.1, (ins, t.2.2.2.2)))) to).1.2.2.2.2.2.2.1, .int .i64 (cutF (t.1, (t.2.1, (t.2.2.1, (ins, t.2.2.2.2)))) to).1.2.2.2.2.2.2.2.1, .ro tVal (cutF (t.1, (t.2.1, (t.2.2.1, (ins, t.2.2.2.2)))) to).1.2.2.2.2.2.2.2.2.1, .ro tMake (cutF (t.1, (t.2.1, (t.2.2.1, (ins, t.2.2.2.2)))) to).1.2.2.2.2.2.2.2.2.2], .c (.int .i64 (cutF (t.1, (t.2.1, (t.2.2.1, (ins, t.2.2.2.2)))) to).2)]) [.cells 29 [.int .i64 (cutF (t.1, (t.2.1, (t.2.2.1, (ins, t.2.2.2.2)))) to).1.1, .int .i64 (cutF (t.1, (t.2.1, (t.2.2.1, (ins, t.2.2.2.2)))) to).1.2.1, .int .i64 (cutF (t.1, (t.2.1, (t.2.2.1, (ins, t.2.2.2.2)))) to).1.2.2.1, .ro tIns (cutF (t.1, (t.2.1, (t.2.2.1, (ins, t.2.2.2.2)))) to).1.2.2.2.1, .ro tExit (cutF (t.1, (t.2.1, (t.2.2.1, (ins, t.2.2.2.2)))) to).1.2.2.2.2.1, .int .i64 (cutF (t.1, (t.2.1, (t.2.2.1, (ins, t.2.2.2.2)))) to).1.2.2.2.2.2.1.1, .int .i64 (cutF (t.1, (t.2.1, (t.2.2.1, (ins, t.2.2.2.2)))) to).1.2.2.2.2.2.1.2.1, .ro tVal (cutF (t.1, (t.2.1, (t.2.2.1, (ins, t.2.2.2.2)))) to).1.2.2.2.2.2.1.2.2.1, .ro tMake (cutF (t.1, (t.2.1, (t.2.2.1, (ins, t.2.2.2.2)))) to).1.2.2.2.2.2.1.2.2.2, .int .i64 (cutF (t.1, (t.2.1, (t.2.2.1, (ins, t.2.2.2.2)))) to).1.2.2.2.2.2.2.1, .int .i64 (cutF (t.1, (t.2.1, (t.2.2.1, (ins, t.2.2.2.2)))) to).1.2.2.2.2.2.2.2.1, .ro tVal (cutF (t.1, (t.2.1, (t.2.2.1, (ins, t.2.2.2.2)))) to).1.2.2.2.2.2.2.2.2.1, .ro tMake (cutF (t.1, (t.2.1, (t.2.2.1, (ins, t.2.2.2.2)))) to).1.2.2.2.2.2.2.2.2.2], .map 164 tVal tVal n m, .cells 128 (Ty.enc tTrace t ++ [.map 1]), .dead, (bDe2 t), .dead])
theorem spando_l0_R_ok (p : EProg) (t : ETrace) (i : Nat) (n : Nat) (m : EVal → Option EVal) (to : List Int) (ins : List EIns) : aRound Tryd.prog oc112 Tryd.f32 spando_lv 3000 (lp (bodyOf Tryd.f32) 0) (J4 (.c (.ptr 0 0 0 0) :: J2 (.c (.ptr 2 0 0 0) :: .c (.sl 3 1 0 t.2.2.2.1.length) :: .c (.ptr 4 0 0 0) :: J16 (J4 (J2 (.junk :: .c (.ro tIns t.2.2.2.1) :: .c (.int .i64 (t.2.2.2.1.length : Int)) :: .c (.int .i64 ((i : Nat) : Int)) :: J32 (J4 (.junk :: [])))))))) [bDe6, .map 164 tVal tVal n m, .cells 128 (Ty.enc tTrace t ++ [.map 1]), .vec 3 tI to, (bDe2 t), .ovec 46 tIns ins] = spando_l0_R p t i n m to ins := by kernel_rfl
theorem spando_l0 (p : EProg) (t : ETrace) (i : Nat) (n : Nat) (m : EVal → Option EVal) (to : List Int) (ins : List EIns) (hc : CheckOk p t) (hs : traceSm t) (hk : KeptOk t (n, m)) (hT : ToI t.2.2.2.1.length i to) (hI : InI t i ins) (hi : i ≤ t.2.2.2.1.length) : Run Tryd.prog 32 (retQ Tryd.prog (.tup [.agg (Ty.enc tTrace ((cutF (spanOut t) (iota t.2.2.2.1.length)).1)), .c (.int .i64 ((cutF (spanOut t) (iota t.2.2.2.1.length)).2))])) (lp (bodyOf Tryd.f32) 0) (J4 (.c (.ptr 0 0 0 0) :: J2 (.c (.ptr 2 0 0 0) :: .c (.sl 3 1 0 t.2.2.2.1.length) :: .c (.ptr 4 0 0 0) :: J16 (J4 (J2 (.junk :: .c (.ro tIns t.2.2.2.1) :: .c (.int .i64 (t.2.2.2.1.length : Int)) :: .c (.int .i64 ((i : Nat) : Int)) :: J32 (J4 (.junk :: [])))))))) [bDe6, .map 164 tVal tVal n m, .cells 128 (Ty.enc tTrace t ++ [.map 1]), .vec 3 tI to, (bDe2 t), .ovec 46 tIns ins] :=
 Run.roundA oc112 spando_lv 3000 Tryd.func32 mixed (spando_l0_R p t i n m to ins) (spando_l0_R_ok p t i n m to ins) (by
  unfold spando_l0_R
  have hT1 := hT.1
  have hI1 := hI.1
  refine g_iteD (fun h0 => ?_) (fun h0 => ?_)
  ·refine g_need (by omega) ?_
   refine g_need (by omega) ?_
   refine g_need (by omega) ?_
   refine g_need (by omega) ?_
   refine g_iteD (fun h1 => ?_) (fun h1 => ?_)
   ·refine g_iteD (fun h2 => ?_) (fun h2 => ?_)
    ·refine g_callH (AFunH.frameB [2, 1] (never_all (dom_of hc) hc.n hk ⟨by omega, by omega⟩ (by first | exact .inl h1 | exact .inr h2)) rfl rfl rfl rfl rfl rfl rfl) ?_
     refine g_ite (fun h3 => ?_) (fun h3 => ?_)
     ·refine g_need (by omega) ?_
      refine g_need (by omega) ?_
      refine g_need (by first | omega | exact ⟨rfl, lawArr⟩ | (have := hc.n; have := hT.1; have := hI.1; omega) | (have := hc.n; rw [i64_iff]; omega) | (constructor <;> first | omega | (have := hT.1; have := hI.1; omega) | rfl) | rfl | (simp; done)) ?_
      refine g_stop (RunN.keep [0, 1, 2, 3, 4, 5] (F4 (true :: F2 (true :: true :: true :: F16 (F4 (F2 (false :: true :: true :: true :: F32 (F4 (false :: [])))))))) n0 (by decide) rfl rfl ?_)
      (have eI := hI.at_ (by omega : i < t.2.2.2.1.length)); (try rw [eI]); first | (exact spando_l0 p t (i + 1) (neverM (spanM t t.2.2.2.1.length) t ((i : Nat) : Int) (n, m)).2.1 (neverM (spanM t t.2.2.2.1.length) t ((i : Nat) : Int) (n, m)).2.2 (to.set (0 + i) ((i : Nat) : Int)) (ins.set i ((t.2.2.2.1.getD i tIns.dflt).1, ((t.2.2.2.1.getD i tIns.dflt).2.1, ((t.2.2.2.1.getD i tIns.dflt).2.2.1, ((t.2.2.2.1.getD i tIns.dflt).2.2.2.1, ((t.2.2.2.1.getD i tIns.dflt).2.2.2.2.1, ((-1), (t.2.2.2.1.getD i tIns.dflt).2.2.2.2.2.2))))))) hc hs (neverM_ok (dom_of hc).toDomT (Nat.le_refl _) (i := (i : Int)) (by omega) (by omega) (.inl h1) hk).2 (hT.step0 (by omega)) (hI.yes (by omega) (drop_yes (.inl h1) (by omega) ((neverM_ok (dom_of hc).toDomT (Nat.le_refl _) (i := (i : Int)) (by omega) (by omega) (.inl h1) hk).1.symm.trans (by assumption)))) (by omega)) | (exact spando_l0 p t (i + 1) (neverM (spanM t t.2.2.2.1.length) t ((i : Nat) : Int) (n, m)).2.1 (neverM (spanM t t.2.2.2.1.length) t ((i : Nat) : Int) (n, m)).2.2 (to.set (0 + i) ((i : Nat) : Int)) (ins.set i ((t.2.2.2.1.getD i tIns.dflt).1, ((t.2.2.2.1.getD i tIns.dflt).2.1, ((t.2.2.2.1.getD i tIns.dflt).2.2.1, ((t.2.2.2.1.getD i tIns.dflt).2.2.2.1, ((t.2.2.2.1.getD i tIns.dflt).2.2.2.2.1, ((-1), (t.2.2.2.1.getD i tIns.dflt).2.2.2.2.2.2))))))) hc hs (neverM_ok (dom_of hc).toDomT (Nat.le_refl _) (i := (i : Int)) (by omega) (by omega) (.inr h2) hk).2 (hT.step0 (by omega)) (hI.yes (by omega) (drop_yes (.inr h2) (by omega) ((neverM_ok (dom_of hc).toDomT (Nat.le_refl _) (i := (i : Int)) (by omega) (by omega) (.inr h2) hk).1.symm.trans (by assumption)))) (by omega))
     ·refine g_need (by first | omega | exact ⟨rfl, lawArr⟩ | (have := hc.n; have := hT.1; have := hI.1; omega) | (have := hc.n; rw [i64_iff]; omega) | (constructor <;> first | omega | (have := hT.1; have := hI.1; omega) | rfl) | rfl | (simp; done)) ?_
      refine g_stop (RunN.keep [0, 1, 2, 3, 4, 5] (F4 (true :: F2 (true :: true :: true :: F16 (F4 (F2 (false :: true :: true :: true :: F32 (F4 (false :: [])))))))) n0 (by decide) rfl rfl ?_)
      (have eI := hI.at_ (by omega : i < t.2.2.2.1.length)); (try rw [eI]); first | (exact spando_l0 p t (i + 1) (neverM (spanM t t.2.2.2.1.length) t ((i : Nat) : Int) (n, m)).2.1 (neverM (spanM t t.2.2.2.1.length) t ((i : Nat) : Int) (n, m)).2.2 (to.set (0 + i) ((i : Nat) : Int)) ins hc hs (neverM_ok (dom_of hc).toDomT (Nat.le_refl _) (i := (i : Int)) (by omega) (by omega) (.inl h1) hk).2 (hT.step0 (by omega)) (hI.no (by omega) (drop_no2 ((neverM_ok (dom_of hc).toDomT (Nat.le_refl _) (i := (i : Int)) (by omega) (by omega) (.inl h1) hk).1.symm.trans (by assumption)))) (by omega)) | (exact spando_l0 p t (i + 1) (neverM (spanM t t.2.2.2.1.length) t ((i : Nat) : Int) (n, m)).2.1 (neverM (spanM t t.2.2.2.1.length) t ((i : Nat) : Int) (n, m)).2.2 (to.set (0 + i) ((i : Nat) : Int)) ins hc hs (neverM_ok (dom_of hc).toDomT (Nat.le_refl _) (i := (i : Int)) (by omega) (by omega) (.inr h2) hk).2 (hT.step0 (by omega)) (hI.no (by omega) (drop_no2 ((neverM_ok (dom_of hc).toDomT (Nat.le_refl _) (i := (i : Int)) (by omega) (by omega) (.inr h2) hk).1.symm.trans (by assumption)))) (by omega))
    ·refine g_need (by first | omega | exact ⟨rfl, lawArr⟩ | (have := hc.n; have := hT.1; have := hI.1; omega) | (have := hc.n; rw [i64_iff]; omega) | (constructor <;> first | omega | (have := hT.1; have := hI.1; omega) | rfl) | rfl | (simp; done)) ?_
     refine g_stop (RunN.keep [0, 1, 2, 3, 4, 5] (F4 (true :: F2 (true :: true :: true :: F16 (F4 (F2 (false :: true :: true :: true :: F32 (F4 (false :: [])))))))) n0 (by decide) rfl rfl ?_)
     (have eI := hI.at_ (by omega : i < t.2.2.2.1.length)); (try rw [eI]); first | (exact spando_l0 p t (i + 1) n m (to.set (0 + i) ((i : Nat) : Int)) ins hc hs hk (hT.step0 (by omega)) (hI.no (by omega) (drop_no1 (by omega))) (by omega))
   ·refine g_iteD (fun h2 => ?_) (fun h2 => ?_)
    ·refine g_iteD (fun h3 => ?_) (fun h3 => ?_)
     ·refine g_callH (AFunH.frameB [2, 1] (never_all (dom_of hc) hc.n hk ⟨by omega, by omega⟩ (by first | exact .inl h1 | exact .inr h2)) rfl rfl rfl rfl rfl rfl rfl) ?_
      refine g_ite (fun h4 => ?_) (fun h4 => ?_)
      ·refine g_need (by omega) ?_
       refine g_need (by omega) ?_
       refine g_need (by first | omega | exact ⟨rfl, lawArr⟩ | (have := hc.n; have := hT.1; have := hI.1; omega) | (have := hc.n; rw [i64_iff]; omega) | (constructor <;> first | omega | (have := hT.1; have := hI.1; omega) | rfl) | rfl | (simp; done)) ?_
       refine g_stop (RunN.keep [0, 1, 2, 3, 4, 5] (F4 (true :: F2 (true :: true :: true :: F16 (F4 (F2 (false :: true :: true :: true :: F32 (F4 (false :: [])))))))) n0 (by decide) rfl rfl ?_)
       (have eI := hI.at_ (by omega : i < t.2.2.2.1.length)); (try rw [eI]); first | (exact spando_l0 p t (i + 1) (neverM (spanM t t.2.2.2.1.length) t ((i : Nat) : Int) (n, m)).2.1 (neverM (spanM t t.2.2.2.1.length) t ((i : Nat) : Int) (n, m)).2.2 (to.set (0 + i) ((i : Nat) : Int)) (ins.set i ((t.2.2.2.1.getD i tIns.dflt).1, ((t.2.2.2.1.getD i tIns.dflt).2.1, ((t.2.2.2.1.getD i tIns.dflt).2.2.1, ((t.2.2.2.1.getD i tIns.dflt).2.2.2.1, ((t.2.2.2.1.getD i tIns.dflt).2.2.2.2.1, ((-1), (t.2.2.2.1.getD i tIns.dflt).2.2.2.2.2.2))))))) hc hs (neverM_ok (dom_of hc).toDomT (Nat.le_refl _) (i := (i : Int)) (by omega) (by omega) (.inl h1) hk).2 (hT.step0 (by omega)) (hI.yes (by omega) (drop_yes (.inl h1) (by omega) ((neverM_ok (dom_of hc).toDomT (Nat.le_refl _) (i := (i : Int)) (by omega) (by omega) (.inl h1) hk).1.symm.trans (by assumption)))) (by omega)) | (exact spando_l0 p t (i + 1) (neverM (spanM t t.2.2.2.1.length) t ((i : Nat) : Int) (n, m)).2.1 (neverM (spanM t t.2.2.2.1.length) t ((i : Nat) : Int) (n, m)).2.2 (to.set (0 + i) ((i : Nat) : Int)) (ins.set i ((t.2.2.2.1.getD i tIns.dflt).1, ((t.2.2.2.1.getD i tIns.dflt).2.1, ((t.2.2.2.1.getD i tIns.dflt).2.2.1, ((t.2.2.2.1.getD i tIns.dflt).2.2.2.1, ((t.2.2.2.1.getD i tIns.dflt).2.2.2.2.1, ((-1), (t.2.2.2.1.getD i tIns.dflt).2.2.2.2.2.2))))))) hc hs (neverM_ok (dom_of hc).toDomT (Nat.le_refl _) (i := (i : Int)) (by omega) (by omega) (.inr h2) hk).2 (hT.step0 (by omega)) (hI.yes (by omega) (drop_yes (.inr h2) (by omega) ((neverM_ok (dom_of hc).toDomT (Nat.le_refl _) (i := (i : Int)) (by omega) (by omega) (.inr h2) hk).1.symm.trans (by assumption)))) (by omega))
      ·refine g_need (by first | omega | exact ⟨rfl, lawArr⟩ | (have := hc.n; have := hT.1; have := hI.1; omega) | (have := hc.n; rw [i64_iff]; omega) | (constructor <;> first | omega | (have := hT.1; have := hI.1; omega) | rfl) | rfl | (simp; done)) ?_
       refine g_stop (RunN.keep [0, 1, 2, 3, 4, 5] (F4 (true :: F2 (true :: true :: true :: F16 (F4 (F2 (false :: true :: true :: true :: F32 (F4 (false :: [])))))))) n0 (by decide) rfl rfl ?_)
       (have eI := hI.at_ (by omega : i < t.2.2.2.1.length)); (try rw [eI]); first | (exact spando_l0 p t (i + 1) (neverM (spanM t t.2.2.2.1.length) t ((i : Nat) : Int) (n, m)).2.1 (neverM (spanM t t.2.2.2.1.length) t ((i : Nat) : Int) (n, m)).2.2 (to.set (0 + i) ((i : Nat) : Int)) ins hc hs (neverM_ok (dom_of hc).toDomT (Nat.le_refl _) (i := (i : Int)) (by omega) (by omega) (.inl h1) hk).2 (hT.step0 (by omega)) (hI.no (by omega) (drop_no2 ((neverM_ok (dom_of hc).toDomT (Nat.le_refl _) (i := (i : Int)) (by omega) (by omega) (.inl h1) hk).1.symm.trans (by assumption)))) (by omega)) | (exact spando_l0 p t (i + 1) (neverM (spanM t t.2.2.2.1.length) t ((i : Nat) : Int) (n, m)).2.1 (neverM (spanM t t.2.2.2.1.length) t ((i : Nat) : Int) (n, m)).2.2 (to.set (0 + i) ((i : Nat) : Int)) ins hc hs (neverM_ok (dom_of hc).toDomT (Nat.le_refl _) (i := (i : Int)) (by omega) (by omega) (.inr h2) hk).2 (hT.step0 (by omega)) (hI.no (by omega) (drop_no2 ((neverM_ok (dom_of hc).toDomT (Nat.le_refl _) (i := (i : Int)) (by omega) (by omega) (.inr h2) hk).1.symm.trans (by assumption)))) (by omega))
     ·refine g_need (by first | omega | exact ⟨rfl, lawArr⟩ | (have := hc.n; have := hT.1; have := hI.1; omega) | (have := hc.n; rw [i64_iff]; omega) | (constructor <;> first | omega | (have := hT.1; have := hI.1; omega) | rfl) | rfl | (simp; done)) ?_
      refine g_stop (RunN.keep [0, 1, 2, 3, 4, 5] (F4 (true :: F2 (true :: true :: true :: F16 (F4 (F2 (false :: true :: true :: true :: F32 (F4 (false :: [])))))))) n0 (by decide) rfl rfl ?_)
      (have eI := hI.at_ (by omega : i < t.2.2.2.1.length)); (try rw [eI]); first | (exact spando_l0 p t (i + 1) n m (to.set (0 + i) ((i : Nat) : Int)) ins hc hs hk (hT.step0 (by omega)) (hI.no (by omega) (drop_no1 (by omega))) (by omega))
    ·refine g_need (by first | omega | exact ⟨rfl, lawArr⟩ | (have := hc.n; have := hT.1; have := hI.1; omega) | (have := hc.n; rw [i64_iff]; omega) | (constructor <;> first | omega | (have := hT.1; have := hI.1; omega) | rfl) | rfl | (simp; done)) ?_
     refine g_stop (RunN.keep [0, 1, 2, 3, 4, 5] (F4 (true :: F2 (true :: true :: true :: F16 (F4 (F2 (false :: true :: true :: true :: F32 (F4 (false :: [])))))))) n0 (by decide) rfl rfl ?_)
     (have eI := hI.at_ (by omega : i < t.2.2.2.1.length)); (try rw [eI]); first | (exact spando_l0 p t (i + 1) n m (to.set (0 + i) ((i : Nat) : Int)) ins hc hs hk (hT.step0 (by omega)) (hI.no (by omega) (drop_no1 (by omega))) (by omega))
  ·refine g_need (by first | omega | exact ⟨rfl, lawArr⟩ | (have := hc.n; have := hT.1; have := hI.1; omega) | (have := hc.n; rw [i64_iff]; omega) | (constructor <;> first | omega | (have := hT.1; have := hI.1; omega) | rfl) | rfl | (simp; done)) ?_
   refine g_need (by first | omega | exact ⟨rfl, lawArr⟩ | (have := hc.n; have := hT.1; have := hI.1; omega) | (have := hc.n; rw [i64_iff]; omega) | (constructor <;> first | omega | (have := hT.1; have := hI.1; omega) | rfl) | rfl | (simp; done)) ?_
   refine g_call (cut_fun (t.1, (t.2.1, (t.2.2.1, (ins, t.2.2.2.2)))) to (by first | exact sm_out hs hI.1 | assumption)) (fun h => nomatch h) ?_
   have ei : i = t.2.2.2.1.length := (by omega); subst ei; have e1 := hT.done; have e2 := hI.done; subst e1; subst e2
   refine g_rq ?_
   exact g_rl (⟨⟨⟨rfl, rfl⟩, ⟨rfl, rfl⟩, ⟨rfl, rfl⟩, ⟨rfl, rfl⟩, ⟨rfl, rfl⟩, ⟨rfl, rfl⟩, ⟨rfl, rfl⟩, ⟨rfl, rfl⟩, ⟨rfl, rfl⟩, ⟨rfl, rfl⟩, ⟨rfl, rfl⟩, ⟨rfl, rfl⟩, ⟨rfl, rfl⟩, trivial⟩, ⟨rfl, rfl⟩, trivial⟩) rfl
  )
 termination_by t.2.2.2.1.length - i
 decreasing_by all_goals omega
theorem spando_fun (p : EProg) (t : ETrace) : AFun Tryd.prog 32 [.agg (tProg.enc p), .agg (tTrace.enc t)] (.tup [.agg (Ty.enc tTrace ((spanDo p t).1)), .c (.int .i64 ((spanDo p t).2))]) :=
 AFun.of oc112 spando_lv 3000 Tryd.func32 mixed rfl (by decide) (Nat.le_of_ble_eq_true rfl) _ (spando_T_ok p t) fun hF => by
  unfold spando_T
  refine g_call (check_fun p t) (fun h => nomatch h) ?_
  refine g_iteND (fun h0 => ?_) (fun h0 => ?_)
  ·rw [spanDo, if_neg (by assumption)]
   refine g_rq ?_
   exact g_rl (⟨⟨⟨rfl, rfl⟩, ⟨rfl, rfl⟩, ⟨rfl, rfl⟩, rfl, rfl, ⟨rfl, rfl⟩, ⟨rfl, rfl⟩, rfl, rfl, ⟨rfl, rfl⟩, ⟨rfl, rfl⟩, rfl, rfl, trivial⟩, ⟨rfl, rfl⟩, trivial⟩) rfl
  ·refine g_need (rfl) ?_
   refine g_need (by first | (have hc := check_iff.1 h0; have := hc.n; omega) | (have hc := check_iff.1 h0; have := hc.n; constructor <;> omega) | (have hc := check_iff.1 h0; have := hc.n; rw [i64_iff]; omega) | rfl | (simp; done)) ?_
   refine g_callH (AFunH.frameB [] (cloneI_fun t.2.2.2.1 (by have := (check_iff.1 h0).n; omega)) rfl rfl rfl rfl rfl rfl rfl) ?_
   refine g_stop (RunN.keep [2, 3, 4, 5, 6, 7] (F4 (true :: F2 (true :: true :: true :: F16 (F4 (F2 (false :: true :: true :: true :: F32 (F4 (false :: [])))))))) n0 (by decide) rfl rfl ?_)
   have hc := check_iff.1 h0; have ht := spando_l0 p t 0 0 (fun _ => none) (List.replicate t.2.2.2.1.length 0) t.2.2.2.1 hc hc.small (kept_nil t) ⟨by simp, fun j hj => absurd hj (Nat.not_lt_zero _)⟩ (InI.start t) (Nat.zero_le _); rw [spanDo, if_pos h0]; exact ht

end Go.Proofs.YtefkifdhjabdiaaDoor
namespace Go.Proofs.YtefkifdhjabdiaaDoor
set_option maxHeartbeats 4000000
set_option linter.unusedVariables false
set_option linter.unusedSimpArgs false
set_option maxRecDepth 100000
def dP {α β : Type} (a : DecidableEq α) (b : DecidableEq β) : DecidableEq (α × β) := @instDecidableEqProd α β a b
def dI : DecidableEq Int := inferInstance
def dL {α : Type} (a : DecidableEq α) : DecidableEq (List α) := @instDecidableEqList α a
instance decVal : DecidableEq EVal := dP dI dI
instance decIns : DecidableEq EIns := dP dI (dP dI (dP dI (dP dI (dP dI (dP dI decVal)))))
instance decMake : DecidableEq EMake := dP dI (dP dI (dP dI (dL dI)))
instance decExit : DecidableEq EExit := dP dI (dP dI (dP (dL decVal) (dL decMake)))
instance decTrace : DecidableEq ETrace := dP dI (dP dI (dP dI (dP (dL decIns) (dP (dL decExit) (dP decExit decExit)))))
theorem drop_eqD {α : Type} (d : α) {a b : List α} {i : Nat} (hl : a.length = b.length) (hi : i < a.length) : (a.drop i = b.drop i) ↔ (a.getD i d = b.getD i d ∧ a.drop (i + 1) = b.drop (i + 1)) := by
 rw [dropCons (l := a) d hi, dropCons (l := b) d (by omega), List.cons.injEq]
theorem dec_and {p q r : Prop} [Decidable p] [Decidable q] [Decidable r] (h : p ↔ q ∧ r) : decide p = (decide q && decide r) := by
 rw [Bool.eq_iff_iff]; simp [h]
def restFm (n m : Int) : Int := if n.tmod m < 0 then n.tmod m + m else n.tmod m
theorem restFm_ok {n m : Int} (hm : 0 < m) : 0 ≤ restFm n m ∧ restFm n m < m := by
 unfold restFm
 have h1 := Int.tmod_lt_of_pos n hm
 have h2 : -m < n.tmod m := by
  have := Int.lt_tmod_of_pos n hm
  exact this
 split <;> omega
def rest_lv : LV := ⟨([]), []⟩
noncomputable def rest_T (n : Int) (m : Int) : Tree :=
 .need (m ≠ 0) <|
 .need (inR .i64 (Int.tmod n m)) <|
 .ite (decide ((Int.tmod n m) < 0))
 (.need (inR .i64 ((Int.tmod n m) + m)) <|
  .ret (.c (.int .i64 ((Int.tmod n m) + m))) [])
 (.ret (.c (.int .i64 (Int.tmod n m))) [])
theorem rest_T_ok (n : Int) (m : Int) : aRun Tryd.prog oc0 Tryd.f20 rest_lv 3000 [.code (bodyOf Tryd.f20)] ([.c (.int .i64 n), .c (.int .i64 m)] ++ List.replicate (Func.ntmps Tryd.f20 - 2) .junk) [] = rest_T n m := by kernel_rfl
theorem rest_fun (n : Int) (m : Int) (hm : 0 < m) : AFun Tryd.prog 20 [.c (.int .i64 n), .c (.int .i64 m)] (.c (.int .i64 (restFm n m))) :=
 AFun.of oc0 rest_lv 3000 Tryd.func20 mixed rfl (by decide) (Nat.le_of_ble_eq_true rfl) _ (rest_T_ok n m) fun hF => by
  have hb := hF.int.1
  have hb2 := hF.int.2.int.1
  rw [i64_iff] at hb hb2
  have t1 := Int.tmod_lt_of_pos n hm
  have t2 := Int.lt_tmod_of_pos n hm
  unfold rest_T
  refine g_need (by first | omega | (rw [i64_iff]; omega) | (rw [i64_iff]; constructor <;> omega)) ?_
  refine g_need (by first | omega | (rw [i64_iff]; omega) | (rw [i64_iff]; constructor <;> omega)) ?_
  refine g_iteD (fun h0 => ?_) (fun h0 => ?_)
  ·refine g_need (by first | omega | (rw [i64_iff]; omega) | (rw [i64_iff]; constructor <;> omega)) ?_
   exact g_reti (by simp only [restFm, h0, if_true, if_false])
  ·exact g_reti (by simp only [restFm, h0, if_true, if_false])

def eqIns_lv : LV := ⟨(false :: true :: F8 (F2 (true :: true :: true :: F8 (F2 (false :: []))))), []⟩
noncomputable def eqIns_T (a : List EIns) (b : List EIns) : Tree :=
 .ite ((!(decide ((a.length : Int) = (b.length : Int)))))
 (.ret (.c (.lit false)) [])
 (.stop (lp (bodyOf Tryd.f28) 0) (.junk :: .c (.ro tIns b) :: J8 (J2 (.c (.ro tIns a) :: .c (.int .i64 (a.length : Int)) :: .c (.int .i64 0) :: J8 (J2 (.junk :: []))))) [])
theorem eqIns_T_ok (a : List EIns) (b : List EIns) : aRun Tryd.prog oc0 Tryd.f28 eqIns_lv 3000 [.code (bodyOf Tryd.f28)] ([.c (.ro tIns a), .c (.ro tIns b)] ++ List.replicate (Func.ntmps Tryd.f28 - 2) .junk) [] = eqIns_T a b := by kernel_rfl
noncomputable def eqIns_l0_R (a : List EIns) (b : List EIns) (i : Nat) : Tree :=
 .ite (decide (((i : Nat) : Int) < (a.length : Int)))
 (.need ((0 : Int) ≤ ((i : Nat) : Int) ∧ (((i : Nat) : Int) : Int) < (a.length : Int)) <|
  .need (i < a.length) <|
  .need ((0 : Int) ≤ ((i : Nat) : Int) ∧ (((i : Nat) : Int) : Int) < (b.length : Int)) <|
  .need (i < b.length) <|
  .ite ((!(decide ((a.getD i tIns.dflt).1 = (b.getD i tIns.dflt).1) && (decide ((a.getD i tIns.dflt).2.1 = (b.getD i tIns.dflt).2.1) && (decide ((a.getD i tIns.dflt).2.2.1 = (b.getD i tIns.dflt).2.2.1) && (decide ((a.getD i tIns.dflt).2.2.2.1 = (b.getD i tIns.dflt).2.2.2.1) && (decide ((a.getD i tIns.dflt).2.2.2.2.1 = (b.getD i tIns.dflt).2.2.2.2.1) && (decide ((a.getD i tIns.dflt).2.2.2.2.2.1 = (b.getD i tIns.dflt).2.2.2.2.2.1) && ((decide ((a.getD i tIns.dflt).2.2.2.2.2.2.1 = (b.getD i tIns.dflt).2.2.2.2.2.2.1) && (decide ((a.getD i tIns.dflt).2.2.2.2.2.2.2 = (b.getD i tIns.dflt).2.2.2.2.2.2.2) && true)) && true)))))))))
  (.ret (.c (.lit false)) [.cells 46 [.int .i64 (a.getD i tIns.dflt).1, .int .i64 (a.getD i tIns.dflt).2.1, .int .i64 (a.getD i tIns.dflt).2.2.1, .int .i64 (a.getD i tIns.dflt).2.2.2.1, .int .i64 (a.getD i tIns.dflt).2.2.2.2.1, .int .i64 (a.getD i tIns.dflt).2.2.2.2.2.1, .int .i64 (a.getD i tIns.dflt).2.2.2.2.2.2.1, .int .i64 (a.getD i tIns.dflt).2.2.2.2.2.2.2]])
  (.need (inR .i64 (((i : Nat) : Int) + 1)) <|
  .stop (lp (bodyOf Tryd.f28) 0) (.junk :: .c (.ro tIns b) :: J8 (J2 (.c (.ro tIns a) :: .c (.int .i64 (a.length : Int)) :: .c (.int .i64 (((i : Nat) : Int) + 1)) :: J8 (J2 (.junk :: []))))) [.cells 46 [.int .i64 (a.getD i tIns.dflt).1, .int .i64 (a.getD i tIns.dflt).2.1, .int .i64 (a.getD i tIns.dflt).2.2.1, .int .i64 (a.getD i tIns.dflt).2.2.2.1, .int .i64 (a.getD i tIns.dflt).2.2.2.2.1, .int .i64 (a.getD i tIns.dflt).2.2.2.2.2.1, .int .i64 (a.getD i tIns.dflt).2.2.2.2.2.2.1, .int .i64 (a.getD i tIns.dflt).2.2.2.2.2.2.2]]))
 (.ret (.c (.lit true)) [])
theorem eqIns_l0_R_ok (a : List EIns) (b : List EIns) (i : Nat) : aRound Tryd.prog oc0 Tryd.f28 eqIns_lv 3000 (lp (bodyOf Tryd.f28) 0) (.junk :: .c (.ro tIns b) :: J8 (J2 (.c (.ro tIns a) :: .c (.int .i64 (a.length : Int)) :: .c (.int .i64 ((i : Nat) : Int)) :: J8 (J2 (.junk :: []))))) [] = eqIns_l0_R a b i := by kernel_rfl
theorem eqIns_l0 (a : List EIns) (b : List EIns) (i : Nat) (hl : a.length = b.length) (hb : a.length ≤ 9223372036854775807) : Run Tryd.prog 28 (retQ Tryd.prog (.c (.bool (decide (a.drop i = b.drop i))))) (lp (bodyOf Tryd.f28) 0) (.junk :: .c (.ro tIns b) :: J8 (J2 (.c (.ro tIns a) :: .c (.int .i64 (a.length : Int)) :: .c (.int .i64 ((i : Nat) : Int)) :: J8 (J2 (.junk :: []))))) [] :=
 Run.roundA oc0 eqIns_lv 3000 Tryd.func28 mixed (eqIns_l0_R a b i) (eqIns_l0_R_ok a b i) (by
  unfold eqIns_l0_R
  refine g_iteD (fun h0 => ?_) (fun h0 => ?_)
  ·refine g_need (by omega) ?_
   refine g_need (by omega) ?_
   refine g_need (by omega) ?_
   refine g_need (by omega) ?_
   refine g_iteN (fun h1 => ?_) (fun h1 => ?_)
   ·exact g_retl (by first | (rw [List.drop_eq_nil_of_le (by omega), List.drop_eq_nil_of_le (by omega)]; rfl) | (symm; rw [decide_eq_false_iff_not, drop_eqD (Ty.dflt tIns) hl (by omega)]; intro q; rw [q.1] at h1; simp at h1))
   ·refine g_need (i64_iff.2 (by omega)) ?_
    refine g_stop (RunN.keep [] (false :: true :: F8 (F2 (true :: true :: true :: F8 (F2 (false :: []))))) n0 (by decide) rfl rfl ?_)
    have := eqIns_l0 a b (i + 1) hl hb; have e : decide (a.drop i = b.drop i) = decide (a.drop (i + 1) = b.drop (i + 1)) := (by rw [decide_eq_decide, drop_eqD (Ty.dflt tIns) hl (by omega)]; exact ⟨fun q => q.2, fun q => ⟨(by simp at h1; exact Prod.ext h1.1 (Prod.ext h1.2.1 (Prod.ext h1.2.2.1 (Prod.ext h1.2.2.2.1 (Prod.ext h1.2.2.2.2.1 (Prod.ext h1.2.2.2.2.2.1 (Prod.ext h1.2.2.2.2.2.2.1 h1.2.2.2.2.2.2.2))))))), q⟩⟩); rw [e]; exact this
  ·exact g_retl (by first | (rw [List.drop_eq_nil_of_le (by omega), List.drop_eq_nil_of_le (by omega)]; rfl) | (symm; rw [decide_eq_false_iff_not, drop_eqD (Ty.dflt tIns) hl (by omega)]; intro q; rw [q.1] at h1; simp at h1))
  )
 termination_by a.length - i
 decreasing_by all_goals omega
theorem eqIns_fun (a : List EIns) (b : List EIns) : AFun Tryd.prog 28 [.c (.ro tIns a), .c (.ro tIns b)] (.c (.bool (decide (a = b)))) :=
 AFun.of oc0 eqIns_lv 3000 Tryd.func28 mixed rfl (by decide) (Nat.le_of_ble_eq_true rfl) _ (eqIns_T_ok a b) fun hF => by
  unfold eqIns_T
  refine g_iteND (fun h0 => ?_) (fun h0 => ?_)
  ·exact g_retl (by symm; rw [decide_eq_false_iff_not]; intro q; exact h0 (by rw [q]))
  ·refine g_stop (RunN.keep [] (false :: true :: F8 (F2 (true :: true :: true :: F8 (F2 (false :: []))))) n0 (by decide) rfl rfl ?_)
   have := eqIns_l0 a b 0 (by omega) hF.ro.1.1; exact this

def eqSet_lv : LV := ⟨(false :: true :: F8 (F2 (true :: true :: true :: F8 (F2 (false :: []))))), []⟩
noncomputable def eqSet_T (a : List EVal) (b : List EVal) : Tree :=
 .ite ((!(decide ((a.length : Int) = (b.length : Int)))))
 (.ret (.c (.lit false)) [])
 (.stop (lp (bodyOf Tryd.f59) 0) (.junk :: .c (.ro tVal b) :: J8 (J2 (.c (.ro tVal a) :: .c (.int .i64 (a.length : Int)) :: .c (.int .i64 0) :: J8 (J2 (.junk :: []))))) [])
theorem eqSet_T_ok (a : List EVal) (b : List EVal) : aRun Tryd.prog oc0 Tryd.f59 eqSet_lv 3000 [.code (bodyOf Tryd.f59)] ([.c (.ro tVal a), .c (.ro tVal b)] ++ List.replicate (Func.ntmps Tryd.f59 - 2) .junk) [] = eqSet_T a b := by kernel_rfl
noncomputable def eqSet_l0_R (a : List EVal) (b : List EVal) (i : Nat) : Tree :=
 .ite (decide (((i : Nat) : Int) < (a.length : Int)))
 (.need ((0 : Int) ≤ ((i : Nat) : Int) ∧ (((i : Nat) : Int) : Int) < (a.length : Int)) <|
  .need (i < a.length) <|
  .need ((0 : Int) ≤ ((i : Nat) : Int) ∧ (((i : Nat) : Int) : Int) < (b.length : Int)) <|
  .need (i < b.length) <|
  .ite ((!(decide ((a.getD i tVal.dflt).1 = (b.getD i tVal.dflt).1) && (decide ((a.getD i tVal.dflt).2 = (b.getD i tVal.dflt).2) && true))))
  (.ret (.c (.lit false)) [.cells 116 [.int .i64 (a.getD i tVal.dflt).1, .int .i64 (a.getD i tVal.dflt).2]])
  (.need (inR .i64 (((i : Nat) : Int) + 1)) <|
  .stop (lp (bodyOf Tryd.f59) 0) (.junk :: .c (.ro tVal b) :: J8 (J2 (.c (.ro tVal a) :: .c (.int .i64 (a.length : Int)) :: .c (.int .i64 (((i : Nat) : Int) + 1)) :: J8 (J2 (.junk :: []))))) [.cells 116 [.int .i64 (a.getD i tVal.dflt).1, .int .i64 (a.getD i tVal.dflt).2]]))
 (.ret (.c (.lit true)) [])
theorem eqSet_l0_R_ok (a : List EVal) (b : List EVal) (i : Nat) : aRound Tryd.prog oc0 Tryd.f59 eqSet_lv 3000 (lp (bodyOf Tryd.f59) 0) (.junk :: .c (.ro tVal b) :: J8 (J2 (.c (.ro tVal a) :: .c (.int .i64 (a.length : Int)) :: .c (.int .i64 ((i : Nat) : Int)) :: J8 (J2 (.junk :: []))))) [] = eqSet_l0_R a b i := by kernel_rfl
theorem eqSet_l0 (a : List EVal) (b : List EVal) (i : Nat) (hl : a.length = b.length) (hb : a.length ≤ 9223372036854775807) : Run Tryd.prog 59 (retQ Tryd.prog (.c (.bool (decide (a.drop i = b.drop i))))) (lp (bodyOf Tryd.f59) 0) (.junk :: .c (.ro tVal b) :: J8 (J2 (.c (.ro tVal a) :: .c (.int .i64 (a.length : Int)) :: .c (.int .i64 ((i : Nat) : Int)) :: J8 (J2 (.junk :: []))))) [] :=
 Run.roundA oc0 eqSet_lv 3000 Tryd.func59 mixed (eqSet_l0_R a b i) (eqSet_l0_R_ok a b i) (by
  unfold eqSet_l0_R
  refine g_iteD (fun h0 => ?_) (fun h0 => ?_)
  ·refine g_need (by omega) ?_
   refine g_need (by omega) ?_
   refine g_need (by omega) ?_
   refine g_need (by omega) ?_
   refine g_iteN (fun h1 => ?_) (fun h1 => ?_)
   ·exact g_retl (by first | (rw [List.drop_eq_nil_of_le (by omega), List.drop_eq_nil_of_le (by omega)]; rfl) | (symm; rw [decide_eq_false_iff_not, drop_eqD (Ty.dflt tVal) hl (by omega)]; intro q; rw [q.1] at h1; simp at h1))
   ·refine g_need (i64_iff.2 (by omega)) ?_
    refine g_stop (RunN.keep [] (false :: true :: F8 (F2 (true :: true :: true :: F8 (F2 (false :: []))))) n0 (by decide) rfl rfl ?_)
    have := eqSet_l0 a b (i + 1) hl hb; have e : decide (a.drop i = b.drop i) = decide (a.drop (i + 1) = b.drop (i + 1)) := (by rw [decide_eq_decide, drop_eqD (Ty.dflt tVal) hl (by omega)]; exact ⟨fun q => q.2, fun q => ⟨(by simp at h1; exact Prod.ext h1.1 h1.2), q⟩⟩); rw [e]; exact this
  ·exact g_retl (by first | (rw [List.drop_eq_nil_of_le (by omega), List.drop_eq_nil_of_le (by omega)]; rfl) | (symm; rw [decide_eq_false_iff_not, drop_eqD (Ty.dflt tVal) hl (by omega)]; intro q; rw [q.1] at h1; simp at h1))
  )
 termination_by a.length - i
 decreasing_by all_goals omega
theorem eqSet_fun (a : List EVal) (b : List EVal) : AFun Tryd.prog 59 [.c (.ro tVal a), .c (.ro tVal b)] (.c (.bool (decide (a = b)))) :=
 AFun.of oc0 eqSet_lv 3000 Tryd.func59 mixed rfl (by decide) (Nat.le_of_ble_eq_true rfl) _ (eqSet_T_ok a b) fun hF => by
  unfold eqSet_T
  refine g_iteND (fun h0 => ?_) (fun h0 => ?_)
  ·exact g_retl (by symm; rw [decide_eq_false_iff_not]; intro q; exact h0 (by rw [q]))
  ·refine g_stop (RunN.keep [] (false :: true :: F8 (F2 (true :: true :: true :: F8 (F2 (false :: []))))) n0 (by decide) rfl rfl ?_)
   have := eqSet_l0 a b 0 (by omega) hF.ro.1.1; exact this

noncomputable def oc30 : Orc where
 pure := fun f args => match f, args with
  | 41, [a0, a1] => match dA (.slice tI) a0, dA (.slice tI) a1 with
   | some x0, some x1 => some (.c (.bool (eqIF x0 x1)))
   | _, _ => none
  | _, _ => none
 heap := fun _ _ _ => none
def sameM_lv : LV := ⟨([]), []⟩
noncomputable def sameM_T (a : EMake) (b : EMake) : Tree :=
 .ite (decide (a.1 = b.1))
 (.ite (decide (a.2.1 = b.2.1))
  (.ite (decide (a.2.2.1 = b.2.2.1))
  (.call 41 [.c (.ro tI a.2.2.2), .c (.ro tI b.2.2.2)] false (.c (.bool (eqIF a.2.2.2 b.2.2.2))) <|
   .ret (.c (.bool (eqIF a.2.2.2 b.2.2.2))) [.cells 118 (Ty.enc tMake a), .cells 118 (Ty.enc tMake b)])
  (.ret (.c (.lit false)) [.cells 118 (Ty.enc tMake a), .cells 118 (Ty.enc tMake b)]))
  (.ret (.c (.lit false)) [.cells 118 (Ty.enc tMake a), .cells 118 (Ty.enc tMake b)]))
 (.ret (.c (.lit false)) [.cells 118 (Ty.enc tMake a), .cells 118 (Ty.enc tMake b)])
theorem sameM_T_ok (a : EMake) (b : EMake) : aRun Tryd.prog oc30 Tryd.f60 sameM_lv 3000 [.code (bodyOf Tryd.f60)] ([.agg (tMake.enc a), .agg (tMake.enc b)] ++ List.replicate (Func.ntmps Tryd.f60 - 2) .junk) [] = sameM_T a b := by kernel_rfl
theorem sameM_fun (a : EMake) (b : EMake) : AFun Tryd.prog 60 [.agg (tMake.enc a), .agg (tMake.enc b)] (.c (.bool (decide (a = b)))) :=
 AFun.of oc30 sameM_lv 3000 Tryd.func60 mixed rfl (by decide) (Nat.le_of_ble_eq_true rfl) _ (sameM_T_ok a b) fun hF => by
  unfold sameM_T
  refine g_iteD (fun h0 => ?_) (fun h0 => ?_)
  ·refine g_iteD (fun h1 => ?_) (fun h1 => ?_)
   ·refine g_iteD (fun h2 => ?_) (fun h2 => ?_)
    ·refine g_call (eqI_fun a.2.2.2 b.2.2.2) (fun h => nomatch h) ?_
     exact g_retb (by obtain ⟨a0, a1, a2, a3⟩ := a; obtain ⟨b0, b1, b2, b3⟩ := b; simp_all [eqIF])
    ·exact g_retl (by obtain ⟨a0, a1, a2, a3⟩ := a; obtain ⟨b0, b1, b2, b3⟩ := b; simp_all [eqIF])
   ·exact g_retl (by obtain ⟨a0, a1, a2, a3⟩ := a; obtain ⟨b0, b1, b2, b3⟩ := b; simp_all [eqIF])
  ·exact g_retl (by obtain ⟨a0, a1, a2, a3⟩ := a; obtain ⟨b0, b1, b2, b3⟩ := b; simp_all [eqIF])

noncomputable def oc31 : Orc where
 pure := fun f args => match f, args with
  | 59, [a0, a1] => match dA (.slice tVal) a0, dA (.slice tVal) a1 with
   | some x0, some x1 => some (.c (.bool (decide (x0 = x1))))
   | _, _ => none
  | 60, [a0, a1] => match dA tMake a0, dA tMake a1 with
   | some x0, some x1 => some (.c (.bool (decide (x0 = x1))))
   | _, _ => none
  | _, _ => none
 heap := fun _ _ _ => none
def sameX_lv : LV := ⟨(F2 (true :: true :: F32 (false :: true :: true :: F8 (F4 (F2 (false :: [])))))), []⟩
noncomputable def sameX_T (a : EExit) (b : EExit) : Tree :=
 .ite ((!(decide (a.1 = b.1))))
 (.ret (.c (.lit false)) [.cells 27 (Ty.enc tExit a), .cells 27 (Ty.enc tExit b)])
 (.ite ((!(decide (a.2.1 = b.2.1))))
  (.ret (.c (.lit false)) [.cells 27 (Ty.enc tExit a), .cells 27 (Ty.enc tExit b)])
  (.call 59 [.c (.ro tVal a.2.2.1), .c (.ro tVal b.2.2.1)] false (.c (.bool (decide (a.2.2.1 = b.2.2.1)))) <|
  .ite ((!(decide (a.2.2.1 = b.2.2.1))))
  (.ret (.c (.lit false)) [.cells 27 (Ty.enc tExit a), .cells 27 (Ty.enc tExit b)])
  (.ite ((!(decide ((a.2.2.2.length : Int) = (b.2.2.2.length : Int)))))
   (.ret (.c (.lit false)) [.cells 27 (Ty.enc tExit a), .cells 27 (Ty.enc tExit b)])
   (.stop (lp (bodyOf Tryd.f29) 0) (J2 (.c (.ptr 0 0 0 0) :: .c (.ptr 1 0 0 0) :: J32 (.junk :: .c (.int .i64 (a.2.2.2.length : Int)) :: .c (.int .i64 0) :: J8 (J4 (J2 (.junk :: [])))))) [.cells 27 (Ty.enc tExit a), .cells 27 (Ty.enc tExit b)]))))
theorem sameX_T_ok (a : EExit) (b : EExit) : aRun Tryd.prog oc31 Tryd.f29 sameX_lv 3000 [.code (bodyOf Tryd.f29)] ([.agg (tExit.enc a), .agg (tExit.enc b)] ++ List.replicate (Func.ntmps Tryd.f29 - 2) .junk) [] = sameX_T a b := by kernel_rfl
noncomputable def sameX_l0_R (a : EExit) (b : EExit) (i : Nat) : Tree :=
 .ite (decide (((i : Nat) : Int) < (a.2.2.2.length : Int)))
 (.need ((0 : Int) ≤ ((i : Nat) : Int) ∧ (((i : Nat) : Int) : Int) < (a.2.2.2.length : Int)) <|
  .need (i < a.2.2.2.length) <|
  .need ((0 : Int) ≤ ((i : Nat) : Int) ∧ (((i : Nat) : Int) : Int) < (b.2.2.2.length : Int)) <|
  .need (i < b.2.2.2.length) <|
  .call 60 [.agg [.int .i64 (a.2.2.2.getD i tMake.dflt).1, .int .i64 (a.2.2.2.getD i tMake.dflt).2.1, .int .i64 (a.2.2.2.getD i tMake.dflt).2.2.1, .ro tI (a.2.2.2.getD i tMake.dflt).2.2.2], .agg [.int .i64 (b.2.2.2.getD i tMake.dflt).1, .int .i64 (b.2.2.2.getD i tMake.dflt).2.1, .int .i64 (b.2.2.2.getD i tMake.dflt).2.2.1, .ro tI (b.2.2.2.getD i tMake.dflt).2.2.2]] false (.c (.bool (decide ((a.2.2.2.getD i tMake.dflt) = (b.2.2.2.getD i tMake.dflt))))) <|
  .ite ((!(decide ((a.2.2.2.getD i tMake.dflt) = (b.2.2.2.getD i tMake.dflt)))))
  (.ret (.c (.lit false)) [.cells 27 (Ty.enc tExit a), .cells 27 (Ty.enc tExit b)])
  (.need (inR .i64 (((i : Nat) : Int) + 1)) <|
  .stop (lp (bodyOf Tryd.f29) 0) (J2 (.c (.ptr 0 0 0 0) :: .c (.ptr 1 0 0 0) :: J32 (.junk :: .c (.int .i64 (a.2.2.2.length : Int)) :: .c (.int .i64 (((i : Nat) : Int) + 1)) :: J8 (J4 (J2 (.junk :: [])))))) [.cells 27 (Ty.enc tExit a), .cells 27 (Ty.enc tExit b)]))
 (.ret (.c (.lit true)) [.cells 27 (Ty.enc tExit a), .cells 27 (Ty.enc tExit b)])
theorem sameX_l0_R_ok (a : EExit) (b : EExit) (i : Nat) : aRound Tryd.prog oc31 Tryd.f29 sameX_lv 3000 (lp (bodyOf Tryd.f29) 0) (J2 (.c (.ptr 0 0 0 0) :: .c (.ptr 1 0 0 0) :: J32 (.junk :: .c (.int .i64 (a.2.2.2.length : Int)) :: .c (.int .i64 ((i : Nat) : Int)) :: J8 (J4 (J2 (.junk :: [])))))) [.cells 27 (Ty.enc tExit a), .cells 27 (Ty.enc tExit b)] = sameX_l0_R a b i := by kernel_rfl
theorem sameX_l0 (a : EExit) (b : EExit) (i : Nat) (hl : a.2.2.2.length = b.2.2.2.length) (hb : a.2.2.2.length ≤ 9223372036854775807) : Run Tryd.prog 29 (retQ Tryd.prog (.c (.bool (decide (a.2.2.2.drop i = b.2.2.2.drop i))))) (lp (bodyOf Tryd.f29) 0) (J2 (.c (.ptr 0 0 0 0) :: .c (.ptr 1 0 0 0) :: J32 (.junk :: .c (.int .i64 (a.2.2.2.length : Int)) :: .c (.int .i64 ((i : Nat) : Int)) :: J8 (J4 (J2 (.junk :: [])))))) [.cells 27 (Ty.enc tExit a), .cells 27 (Ty.enc tExit b)] :=
 Run.roundA oc31 sameX_lv 3000 Tryd.func29 mixed (sameX_l0_R a b i) (sameX_l0_R_ok a b i) (by
  unfold sameX_l0_R
  refine g_iteD (fun h0 => ?_) (fun h0 => ?_)
  ·refine g_need (by omega) ?_
   refine g_need (by omega) ?_
   refine g_need (by omega) ?_
   refine g_need (by omega) ?_
   refine g_call (sameM_fun (a.2.2.2.getD i tMake.dflt) (b.2.2.2.getD i tMake.dflt)) (fun h => nomatch h) ?_
   refine g_iteND (fun h1 => ?_) (fun h1 => ?_)
   ·exact g_retl (by first | (rw [List.drop_eq_nil_of_le (by omega), List.drop_eq_nil_of_le (by omega)]; rfl) | (symm; rw [decide_eq_false_iff_not, drop_eqD (Ty.dflt tMake) hl (by omega)]; intro q; rw [q.1] at h1; simp at h1))
   ·refine g_need (i64_iff.2 (by omega)) ?_
    refine g_stop (RunN.keep [0, 1] (F2 (true :: true :: F32 (false :: true :: true :: F8 (F4 (F2 (false :: [])))))) n0 (by decide) rfl rfl ?_)
    have := sameX_l0 a b (i + 1) hl hb; have e : decide (a.2.2.2.drop i = b.2.2.2.drop i) = decide (a.2.2.2.drop (i + 1) = b.2.2.2.drop (i + 1)) := (by rw [decide_eq_decide, drop_eqD (Ty.dflt tMake) hl (by omega)]; exact ⟨fun q => q.2, fun q => ⟨(by first | exact h1 | exact of_decide_eq_true h1), q⟩⟩); rw [e]; exact this
  ·exact g_retl (by first | (rw [List.drop_eq_nil_of_le (by omega), List.drop_eq_nil_of_le (by omega)]; rfl) | (symm; rw [decide_eq_false_iff_not, drop_eqD (Ty.dflt tMake) hl (by omega)]; intro q; rw [q.1] at h1; simp at h1))
  )
 termination_by a.2.2.2.length - i
 decreasing_by all_goals omega
theorem sameX_fun (a : EExit) (b : EExit) : AFun Tryd.prog 29 [.agg (tExit.enc a), .agg (tExit.enc b)] (.c (.bool (decide (a = b)))) :=
 AFun.of oc31 sameX_lv 3000 Tryd.func29 mixed rfl (by decide) (Nat.le_of_ble_eq_true rfl) _ (sameX_T_ok a b) fun hF => by
  have hb := hF.agg.1.2.2.2.1
  unfold sameX_T
  refine g_iteND (fun h0 => ?_) (fun h0 => ?_)
  ·exact g_retl (by symm; rw [decide_eq_false_iff_not]; rintro rfl; simp_all)
  ·refine g_iteND (fun h1 => ?_) (fun h1 => ?_)
   ·exact g_retl (by symm; rw [decide_eq_false_iff_not]; rintro rfl; simp_all)
   ·refine g_call (eqSet_fun a.2.2.1 b.2.2.1) (fun h => nomatch h) ?_
    refine g_iteND (fun h2 => ?_) (fun h2 => ?_)
    ·exact g_retl (by symm; rw [decide_eq_false_iff_not]; rintro rfl; simp_all)
    ·refine g_iteND (fun h3 => ?_) (fun h3 => ?_)
     ·exact g_retl (by symm; rw [decide_eq_false_iff_not]; rintro rfl; simp_all)
     ·refine g_stop (RunN.keep [0, 1] (F2 (true :: true :: F32 (false :: true :: true :: F8 (F4 (F2 (false :: [])))))) n0 (by decide) rfl rfl ?_)
      have := sameX_l0 a b 0 (by omega) hb; rw [List.drop_zero, List.drop_zero] at this; have e : decide (a = b) = decide (a.2.2.2 = b.2.2.2) := (by rw [decide_eq_decide]; exact ⟨fun q => by rw [q], fun q => Prod.ext (by assumption) (Prod.ext (by assumption) (Prod.ext (by assumption) q))⟩); rw [e]; exact this

noncomputable def oc32 : Orc where
 pure := fun f args => match f, args with
  | 28, [a0, a1] => match dA (.slice tIns) a0, dA (.slice tIns) a1 with
   | some x0, some x1 => some (.c (.bool (decide (x0 = x1))))
   | _, _ => none
  | 29, [a0, a1] => match dA tExit a0, dA tExit a1 with
   | some x0, some x1 => some (.c (.bool (decide (x0 = x1))))
   | _, _ => none
  | _, _ => none
 heap := fun _ _ _ => none
def sameT_lv : LV := ⟨(F2 (true :: true :: F32 (F16 (F8 (true :: true :: F8 (F4 (F2 (false :: [])))))))), [3]⟩
noncomputable def sameT_T (a : ETrace) (b : ETrace) : Tree :=
 .ite ((!(decide (a.1 = b.1))))
 (.ret (.c (.lit false)) [.cells 29 (Ty.enc tTrace a), .cells 29 (Ty.enc tTrace b)])
 (.ite ((!(decide (a.2.1 = b.2.1))))
  (.ret (.c (.lit false)) [.cells 29 (Ty.enc tTrace a), .cells 29 (Ty.enc tTrace b)])
  (.ite ((!(decide (a.2.2.1 = b.2.2.1))))
  (.ret (.c (.lit false)) [.cells 29 (Ty.enc tTrace a), .cells 29 (Ty.enc tTrace b)])
  (.call 28 [.c (.ro tIns a.2.2.2.1), .c (.ro tIns b.2.2.2.1)] false (.c (.bool (decide (a.2.2.2.1 = b.2.2.2.1)))) <|
   .ite ((!(decide (a.2.2.2.1 = b.2.2.2.1))))
   (.ret (.c (.lit false)) [.cells 29 (Ty.enc tTrace a), .cells 29 (Ty.enc tTrace b)])
   (.ite ((!(decide ((a.2.2.2.2.1.length : Int) = (b.2.2.2.2.1.length : Int)))))
   (.ret (.c (.lit false)) [.cells 29 (Ty.enc tTrace a), .cells 29 (Ty.enc tTrace b)])
   (.call 29 [.agg [.int .i64 a.2.2.2.2.2.1.1, .int .i64 a.2.2.2.2.2.1.2.1, .ro tVal a.2.2.2.2.2.1.2.2.1, .ro tMake a.2.2.2.2.2.1.2.2.2], .agg [.int .i64 b.2.2.2.2.2.1.1, .int .i64 b.2.2.2.2.2.1.2.1, .ro tVal b.2.2.2.2.2.1.2.2.1, .ro tMake b.2.2.2.2.2.1.2.2.2]] false (.c (.bool (decide (a.2.2.2.2.2.1 = b.2.2.2.2.2.1)))) <|
    .ite ((!(decide (a.2.2.2.2.2.1 = b.2.2.2.2.2.1))))
    (.ret (.c (.lit false)) [.cells 29 (Ty.enc tTrace a), .cells 29 (Ty.enc tTrace b)])
    (.call 29 [.agg [.int .i64 a.2.2.2.2.2.2.1, .int .i64 a.2.2.2.2.2.2.2.1, .ro tVal a.2.2.2.2.2.2.2.2.1, .ro tMake a.2.2.2.2.2.2.2.2.2], .agg [.int .i64 b.2.2.2.2.2.2.1, .int .i64 b.2.2.2.2.2.2.2.1, .ro tVal b.2.2.2.2.2.2.2.2.1, .ro tMake b.2.2.2.2.2.2.2.2.2]] false (.c (.bool (decide (a.2.2.2.2.2.2 = b.2.2.2.2.2.2)))) <|
    .ite ((!(decide (a.2.2.2.2.2.2 = b.2.2.2.2.2.2))))
    (.ret (.c (.lit false)) [.cells 29 (Ty.enc tTrace a), .cells 29 (Ty.enc tTrace b)])
    (.stop (rg (bodyOf Tryd.f16) 3) (J2 (.c (.ptr 0 0 0 0) :: .c (.ptr 1 0 0 0) :: J32 (J32 (J8 (.junk :: []))))) [.cells 29 (Ty.enc tTrace a), .cells 29 (Ty.enc tTrace b)])))))))
theorem sameT_T_ok (a : ETrace) (b : ETrace) : aRun Tryd.prog oc32 Tryd.f16 sameT_lv 3000 [.code (bodyOf Tryd.f16)] ([.agg (tTrace.enc a), .agg (tTrace.enc b)] ++ List.replicate (Func.ntmps Tryd.f16 - 2) .junk) [] = sameT_T a b := by kernel_rfl
noncomputable def sameT_r3_R (a : ETrace) (b : ETrace) : Tree :=
 .stop (lp (bodyOf Tryd.f16) 0) (J2 (.c (.ptr 0 0 0 0) :: .c (.ptr 1 0 0 0) :: J32 (J16 (J8 (.c (.int .i64 (a.2.2.2.2.1.length : Int)) :: .c (.int .i64 0) :: J8 (J4 (J2 (.junk :: [])))))))) [.cells 29 (Ty.enc tTrace a), .cells 29 (Ty.enc tTrace b)]
theorem sameT_r3_R_ok (a : ETrace) (b : ETrace) : aRound Tryd.prog oc32 Tryd.f16 sameT_lv 3000 (rg (bodyOf Tryd.f16) 3) (J2 (.c (.ptr 0 0 0 0) :: .c (.ptr 1 0 0 0) :: J32 (J32 (J8 (.junk :: []))))) [.cells 29 (Ty.enc tTrace a), .cells 29 (Ty.enc tTrace b)] = sameT_r3_R a b := by kernel_rfl
noncomputable def sameT_l0_R (a : ETrace) (b : ETrace) (i : Nat) : Tree :=
 .ite (decide (((i : Nat) : Int) < (a.2.2.2.2.1.length : Int)))
 (.need ((0 : Int) ≤ ((i : Nat) : Int) ∧ (((i : Nat) : Int) : Int) < (a.2.2.2.2.1.length : Int)) <|
  .need (i < a.2.2.2.2.1.length) <|
  .need ((0 : Int) ≤ ((i : Nat) : Int) ∧ (((i : Nat) : Int) : Int) < (b.2.2.2.2.1.length : Int)) <|
  .need (i < b.2.2.2.2.1.length) <|
  .call 29 [.agg [.int .i64 (a.2.2.2.2.1.getD i tExit.dflt).1, .int .i64 (a.2.2.2.2.1.getD i tExit.dflt).2.1, .ro tVal (a.2.2.2.2.1.getD i tExit.dflt).2.2.1, .ro tMake (a.2.2.2.2.1.getD i tExit.dflt).2.2.2], .agg [.int .i64 (b.2.2.2.2.1.getD i tExit.dflt).1, .int .i64 (b.2.2.2.2.1.getD i tExit.dflt).2.1, .ro tVal (b.2.2.2.2.1.getD i tExit.dflt).2.2.1, .ro tMake (b.2.2.2.2.1.getD i tExit.dflt).2.2.2]] false (.c (.bool (decide ((a.2.2.2.2.1.getD i tExit.dflt) = (b.2.2.2.2.1.getD i tExit.dflt))))) <|
  .ite ((!(decide ((a.2.2.2.2.1.getD i tExit.dflt) = (b.2.2.2.2.1.getD i tExit.dflt)))))
  (.ret (.c (.lit false)) [.cells 29 (Ty.enc tTrace a), .cells 29 (Ty.enc tTrace b)])
  (.need (inR .i64 (((i : Nat) : Int) + 1)) <|
  .stop (lp (bodyOf Tryd.f16) 0) (J2 (.c (.ptr 0 0 0 0) :: .c (.ptr 1 0 0 0) :: J32 (J16 (J8 (.c (.int .i64 (a.2.2.2.2.1.length : Int)) :: .c (.int .i64 (((i : Nat) : Int) + 1)) :: J8 (J4 (J2 (.junk :: [])))))))) [.cells 29 (Ty.enc tTrace a), .cells 29 (Ty.enc tTrace b)]))
 (.ret (.c (.lit true)) [.cells 29 (Ty.enc tTrace a), .cells 29 (Ty.enc tTrace b)])
theorem sameT_l0_R_ok (a : ETrace) (b : ETrace) (i : Nat) : aRound Tryd.prog oc32 Tryd.f16 sameT_lv 3000 (lp (bodyOf Tryd.f16) 0) (J2 (.c (.ptr 0 0 0 0) :: .c (.ptr 1 0 0 0) :: J32 (J16 (J8 (.c (.int .i64 (a.2.2.2.2.1.length : Int)) :: .c (.int .i64 ((i : Nat) : Int)) :: J8 (J4 (J2 (.junk :: [])))))))) [.cells 29 (Ty.enc tTrace a), .cells 29 (Ty.enc tTrace b)] = sameT_l0_R a b i := by kernel_rfl
theorem sameT_l0 (a : ETrace) (b : ETrace) (i : Nat) (hl : a.2.2.2.2.1.length = b.2.2.2.2.1.length) (hb : a.2.2.2.2.1.length ≤ 9223372036854775807) : Run Tryd.prog 16 (retQ Tryd.prog (.c (.bool (decide (a.2.2.2.2.1.drop i = b.2.2.2.2.1.drop i))))) (lp (bodyOf Tryd.f16) 0) (J2 (.c (.ptr 0 0 0 0) :: .c (.ptr 1 0 0 0) :: J32 (J16 (J8 (.c (.int .i64 (a.2.2.2.2.1.length : Int)) :: .c (.int .i64 ((i : Nat) : Int)) :: J8 (J4 (J2 (.junk :: [])))))))) [.cells 29 (Ty.enc tTrace a), .cells 29 (Ty.enc tTrace b)] :=
 Run.roundA oc32 sameT_lv 3000 Tryd.func16 mixed (sameT_l0_R a b i) (sameT_l0_R_ok a b i) (by
  unfold sameT_l0_R
  refine g_iteD (fun h0 => ?_) (fun h0 => ?_)
  ·refine g_need (by omega) ?_
   refine g_need (by omega) ?_
   refine g_need (by omega) ?_
   refine g_need (by omega) ?_
   refine g_call (sameX_fun (a.2.2.2.2.1.getD i tExit.dflt) (b.2.2.2.2.1.getD i tExit.dflt)) (fun h => nomatch h) ?_
   refine g_iteND (fun h1 => ?_) (fun h1 => ?_)
   ·exact g_retl (by first | (rw [List.drop_eq_nil_of_le (by omega), List.drop_eq_nil_of_le (by omega)]; rfl) | (symm; rw [decide_eq_false_iff_not, drop_eqD (Ty.dflt tExit) hl (by omega)]; intro q; rw [q.1] at h1; simp at h1))
   ·refine g_need (i64_iff.2 (by omega)) ?_
    refine g_stop (RunN.keep [0, 1] (F2 (true :: true :: F32 (F16 (F8 (true :: true :: F8 (F4 (F2 (false :: [])))))))) n0 (by decide) rfl rfl ?_)
    have := sameT_l0 a b (i + 1) hl hb; have e : decide (a.2.2.2.2.1.drop i = b.2.2.2.2.1.drop i) = decide (a.2.2.2.2.1.drop (i + 1) = b.2.2.2.2.1.drop (i + 1)) := (by rw [decide_eq_decide, drop_eqD (Ty.dflt tExit) hl (by omega)]; exact ⟨fun q => q.2, fun q => ⟨(by first | exact h1 | exact of_decide_eq_true h1), q⟩⟩); rw [e]; exact this
  ·exact g_retl (by first | (rw [List.drop_eq_nil_of_le (by omega), List.drop_eq_nil_of_le (by omega)]; rfl) | (symm; rw [decide_eq_false_iff_not, drop_eqD (Ty.dflt tExit) hl (by omega)]; intro q; rw [q.1] at h1; simp at h1))
  )
 termination_by a.2.2.2.2.1.length - i
 decreasing_by all_goals omega
theorem sameT_r3 (a : ETrace) (b : ETrace) (hl : a.2.2.2.2.1.length = b.2.2.2.2.1.length) (hb : a.2.2.2.2.1.length ≤ 9223372036854775807) : Run Tryd.prog 16 (retQ Tryd.prog (.c (.bool (decide (a.2.2.2.2.1 = b.2.2.2.2.1))))) (rg (bodyOf Tryd.f16) 3) (J2 (.c (.ptr 0 0 0 0) :: .c (.ptr 1 0 0 0) :: J32 (J32 (J8 (.junk :: []))))) [.cells 29 (Ty.enc tTrace a), .cells 29 (Ty.enc tTrace b)] :=
 Run.roundA oc32 sameT_lv 3000 Tryd.func16 mixed (sameT_r3_R a b) (sameT_r3_R_ok a b) (by
  unfold sameT_r3_R
  refine g_stop (RunN.keep [0, 1] (F2 (true :: true :: F32 (F16 (F8 (true :: true :: F8 (F4 (F2 (false :: [])))))))) n0 (by decide) rfl rfl ?_)
  have := sameT_l0 a b 0 hl hb; rw [List.drop_zero, List.drop_zero] at this; exact this
  )
theorem sameT_fun (a : ETrace) (b : ETrace) : AFun Tryd.prog 16 [.agg (tTrace.enc a), .agg (tTrace.enc b)] (.c (.bool (decide (a = b)))) :=
 AFun.of oc32 sameT_lv 3000 Tryd.func16 mixed rfl (by decide) (Nat.le_of_ble_eq_true rfl) _ (sameT_T_ok a b) fun hF => by
  have hb := hF.agg.1.2.2.2.2.1.1
  unfold sameT_T
  refine g_iteND (fun h0 => ?_) (fun h0 => ?_)
  ·exact g_retl (by symm; rw [decide_eq_false_iff_not]; rintro rfl; simp_all)
  ·refine g_iteND (fun h1 => ?_) (fun h1 => ?_)
   ·exact g_retl (by symm; rw [decide_eq_false_iff_not]; rintro rfl; simp_all)
   ·refine g_iteND (fun h2 => ?_) (fun h2 => ?_)
    ·exact g_retl (by symm; rw [decide_eq_false_iff_not]; rintro rfl; simp_all)
    ·refine g_call (eqIns_fun a.2.2.2.1 b.2.2.2.1) (fun h => nomatch h) ?_
     refine g_iteND (fun h3 => ?_) (fun h3 => ?_)
     ·exact g_retl (by symm; rw [decide_eq_false_iff_not]; rintro rfl; simp_all)
     ·refine g_iteND (fun h4 => ?_) (fun h4 => ?_)
      ·exact g_retl (by symm; rw [decide_eq_false_iff_not]; rintro rfl; simp_all)
      ·refine g_call (sameX_fun a.2.2.2.2.2.1 b.2.2.2.2.2.1) (fun h => nomatch h) ?_
       refine g_iteND (fun h5 => ?_) (fun h5 => ?_)
       ·exact g_retl (by symm; rw [decide_eq_false_iff_not]; rintro rfl; simp_all)
       ·refine g_call (sameX_fun a.2.2.2.2.2.2 b.2.2.2.2.2.2) (fun h => nomatch h) ?_
        refine g_iteND (fun h6 => ?_) (fun h6 => ?_)
        ·exact g_retl (by symm; rw [decide_eq_false_iff_not]; rintro rfl; simp_all)
        ·refine g_stop (RunN.keep [0, 1] (F2 (true :: true :: F32 (F32 (F8 (false :: []))))) n0 (by decide) rfl rfl ?_)
         have := sameT_r3 a b (by omega) hb; have e : decide (a = b) = decide (a.2.2.2.2.1 = b.2.2.2.2.1) := (by rw [decide_eq_decide]; exact ⟨fun q => by rw [q], fun q => Prod.ext (by assumption) (Prod.ext (by assumption) (Prod.ext (by assumption) (Prod.ext (by assumption) (Prod.ext q (Prod.ext (by assumption) (by assumption))))))⟩); rw [e]; exact this

end Go.Proofs.YtefkifdhjabdiaaDoor
namespace Go.Proofs.YtefkifdhjabdiaaDoor
set_option maxHeartbeats 4000000
set_option linter.unusedVariables false
set_option linter.unusedSimpArgs false
set_option maxRecDepth 100000
section
variable {c d : EChk}
/-- Two checkers that see the same. -/
structure SameK (c d : EChk) : Prop where
 fn : c.1 = d.1
 len : c.2.2.2.2.1.length = d.2.2.2.2.1.length
 op : ∀ j, (c.2.2.2.2.1.getD j tIns.dflt).1 = (d.2.2.2.2.1.getD j tIns.dflt).1
 ex : c.2.2.2.2.2.1 = d.2.2.2.2.2.1
theorem SameK.value (h : SameK c d) (v a : Int) : valueF c v a = valueF d v a := by unfold valueF; rw [h.len, h.op]
theorem SameK.values (h : SameK c d) (l : List Int) (a : Int) : valuesF c l a = valuesF d l a := by
 unfold valuesF
 rw [show (fun v => valueF c v a) = fun v => valueF d v a from funext fun v => h.value v a]
theorem SameK.make (h : SameK c d) (m : EMake) (a : Int) : makeF c m a = makeF d m a := by unfold makeF; rw [h.value, h.op, h.values]
theorem SameK.sets (h : SameK c d) (a : Int) : ∀ (last : Int) (l : List ESet), setsF c a last l = setsF d a last l
 | _, [] => rfl
 | last, s :: r => by unfold setsF; rw [h.fn, h.value, SameK.sets h a s.1 r]
theorem SameK.makes (h : SameK c d) (a : Int) : ∀ (last : Int) (l : List EMake), makesF c a last l = makesF d a last l
 | _, [] => rfl
 | last, m :: r => by unfold makesF; rw [h.make, SameK.makes h a m.1 r]
theorem SameK.right (h : SameK c d) (x : EExit) (a : Int) : rightXF c x a = rightXF d x a := by unfold rightXF; rw [h.fn, h.sets, h.makes]
theorem SameK.exit (h : SameK c d) (f : EForm) (x : EIns) (a : Int) : exitOk c f x a = exitOk d f x a := by unfold exitOk; rw [h.ex, h.right]
theorem SameK.formed (h : SameK c d) (f : EForm) (x : EIns) (a : Int) : formedF c f x a = formedF d f x a := by
 unfold formedF tailF tail2F regOk
 rw [h.values, h.fn, h.exit]
theorem formed_drop {x : EIns} {a : Int} (h : formedF c (ofF x.1).1 x a = true) (ho : x.1 = 7 ∨ x.1 = 8) : formedF c (ofF x.1).1 (x.1, x.2.1, x.2.2.1, x.2.2.2.1, x.2.2.2.2.1, -1, x.2.2.2.2.2.2) a = true := by
 have e : exitOk c (ofF x.1).1 (x.1, x.2.1, x.2.2.1, x.2.2.2.1, x.2.2.2.2.1, -1, x.2.2.2.2.2.2) a = true := by
  have e1 : (ofF x.1).1.2.2.2.2.2 = 1 := by rcases ho with ho | ho <;> rw [ho] <;> rfl
  unfold exitOk
  rw [if_neg (by rw [e1]; decide), if_pos e1, if_pos rfl]
 unfold formedF at h ⊢
 rw [Bool.and_eq_true, Bool.and_eq_true] at h ⊢
 obtain ⟨h1, h2, h3⟩ := h
 refine ⟨h1, h2, ?_⟩
 unfold tailF tail2F at h3 ⊢
 rw [e]
 revert h3
 show (if x.2.2.2.2.1 < (ofF x.1).1.2.1 then false else if (ofF x.1).1.2.2.1 < x.2.2.2.2.1 then false else if regOk c x = true then (if kOk (ofF x.1).1 x = true then (if refOk x = true then exitOk c (ofF x.1).1 x a else false) else false) else false) = true → (if x.2.2.2.2.1 < (ofF x.1).1.2.1 then false else if (ofF x.1).1.2.2.1 < x.2.2.2.2.1 then false else if regOk c x = true then (if kOk (ofF x.1).1 x = true then (if refOk x = true then true else false) else false) else false) = true
 repeat' split
 all_goals simp
end
theorem drop_is (t : ETrace) (i : Int) (x : EIns) : dropE t i x = x ∨ (x.1 = 7 ∨ x.1 = 8) ∧ dropE t i x = (x.1, x.2.1, x.2.2.1, x.2.2.2.1, x.2.2.2.2.1, -1, x.2.2.2.2.2.2) := by
 unfold dropE
 split
 ·rename_i h; exact .inr ⟨h.1, rfl⟩
 ·exact .inl rfl
theorem outI_at {t : ETrace} {j : Nat} (hj : j < t.2.2.2.1.length) : (outI t).getD j tIns.dflt = dropE t j (t.2.2.2.1.getD j tIns.dflt) := by
 unfold outI
 rw [List.getD_eq_getElem?_getD, List.getElem?_map, List.getElem?_range hj]
 rfl
theorem outI_len (t : ETrace) : (outI t).length = t.2.2.2.1.length := by simp [outI]
theorem outI_off {t : ETrace} {j : Nat} (hj : ¬ j < t.2.2.2.1.length) : (outI t).getD j tIns.dflt = t.2.2.2.1.getD j tIns.dflt := by
 rw [List.getD_eq_getElem?_getD, List.getD_eq_getElem?_getD, List.getElem?_eq_none (by rw [outI_len]; omega), List.getElem?_eq_none (by omega)]
theorem insV_out (t : ETrace) (v : Int) : insV (spanOut t) v = insV t v ∨ ((insV t v).1 = 7 ∨ (insV t v).1 = 8) ∧ insV (spanOut t) v = ((insV t v).1, (insV t v).2.1, (insV t v).2.2.1, (insV t v).2.2.2.1, (insV t v).2.2.2.2.1, -1, (insV t v).2.2.2.2.2.2) := by
 by_cases hj : v.toNat < t.2.2.2.1.length
 ·have e : insV (spanOut t) v = dropE t v.toNat (insV t v) := outI_at hj
  rw [e]
  exact drop_is _ _ _
 ·exact .inl (outI_off hj)
def stripI (x : EIns) : EIns := (x.1, x.2.1, x.2.2.1, x.2.2.2.1, x.2.2.2.2.1, 0, x.2.2.2.2.2.2)
theorem strip_drop (t : ETrace) (i : Int) (x : EIns) : stripI (dropE t i x) = stripI x := by
 rcases drop_is t i x with e | ⟨_, e⟩ <;> rw [e] <;> rfl
theorem strip_out (t : ETrace) : (outI t).map stripI = t.2.2.2.1.map stripI := by
 apply List.ext_getElem
 ·simp [outI_len]
 ·intro j h1 h2
  have hj : j < t.2.2.2.1.length := by simpa using h2
  have e := outI_at hj
  have hj' : j < (outI t).length := by rw [outI_len]; exact hj
  rw [List.getD_eq_getElem?_getD, List.getD_eq_getElem?_getD, List.getElem?_eq_getElem hj, List.getElem?_eq_getElem hj'] at e
  have e : (outI t)[j] = dropE t j t.2.2.2.1[j] := e
  rw [List.getElem_map, List.getElem_map, e, strip_drop]
theorem scanK_strip (v : Int) : ∀ l : List EIns, scanK v l = scanK v (l.map stripI)
 | [] => rfl
 | x :: r => by
  rw [List.map_cons]
  unfold scanK
  rw [← scanK_strip v r]
  rfl
theorem kindN_out (t : ETrace) : ∀ (n : Nat) (v a : Int), kindN t n v a = kindN (spanOut t) n v a
 | 0, _, _ => rfl
 | n + 1, v, a => by
  have e1 : ((outI t).length : Int) = (t.2.2.2.1.length : Int) := by rw [outI_len]
  have e2 : ∀ k : Int → Int, ownK k (insV (spanOut t) v) = ownK k (insV t v) := fun k => by
   rcases insV_out t v with e | ⟨_, e⟩ <;> rw [e] <;> rfl
  have e3 : (insV (spanOut t) v).1 = (insV t v).1 := by rcases insV_out t v with e | ⟨_, e⟩ <;> rw [e]
  have e4 : scanK v (((outI t).take a.toNat).drop (v + 1).toNat) = scanK v ((t.2.2.2.1.take a.toNat).drop (v + 1).toNat) := by
   rw [scanK_strip, scanK_strip v ((t.2.2.2.1.take a.toNat).drop (v + 1).toNat), List.map_drop, List.map_take, List.map_drop, List.map_take, strip_out]
  have e5 : (fun b => kindN t n b v) = fun b => kindN (spanOut t) n b v := funext fun b => kindN_out t n b v
  have e6 := e2 fun b => kindN (spanOut t) n b v
  unfold insV at e3 e6
  have e7 : (spanOut t).2.2.2.1 = outI t := rfl
  rw [e7] at e3 e6
  unfold kindN
  rw [e7, e1, e3, e5, e6, e4]
theorem sameX_out (t : ETrace) : SameX t (spanOut t) where
 len := (outI_len t).symm
 op := fun v => by rcases insV_out t v with e | ⟨_, e⟩ <;> rw [e]
 a := fun v => by rcases insV_out t v with e | ⟨_, e⟩ <;> rw [e]
 b := fun v => by rcases insV_out t v with e | ⟨_, e⟩ <;> rw [e]
 n := fun v => by rcases insV_out t v with e | ⟨_, e⟩ <;> rw [e]
 k := fun v => by rcases insV_out t v with e | ⟨_, e⟩ <;> rw [e]
 kind := fun v a => kindN_out t _ v a
theorem sameK_out (p : EProg) (t : ETrace) : SameK (chkOf p t) (chkOf p (spanOut t)) where
 fn := rfl
 len := (outI_len t).symm
 op := fun j => by
  show (t.2.2.2.1.getD j tIns.dflt).1 = ((outI t).getD j tIns.dflt).1
  by_cases hj : j < t.2.2.2.1.length
  ·rw [outI_at hj]
   rcases drop_is t j (t.2.2.2.1.getD j tIns.dflt) with e | ⟨_, e⟩ <;> rw [e]
  ·rw [outI_off hj]
 ex := rfl
theorem out_ok {p : EProg} {t : ETrace} (hc : CheckOk p t) : CheckOk p (spanOut t) where
 code := hc.code
 n := by show (outI t).length ≤ 300; rw [outI_len]; exact hc.n
 m := hc.m
 fn0 := hc.fn0
 fn1 := hc.fn1
 at0 := hc.at0
 at1 := hc.at1
 loop0 := hc.loop0
 loop1 := by show t.2.2.1 ≤ ((outI t).length : Int); rw [outI_len]; exact hc.loop1
 ins := fun i x hx => by
  have hx : (outI t)[i]? = some x := hx
  have hi : i < t.2.2.2.1.length := by rw [← outI_len t]; exact (List.getElem?_eq_some_iff.1 hx).1
  have ex : x = dropE t i (t.2.2.2.1.getD i tIns.dflt) := by rw [← outI_at hi, List.getD_eq_getElem?_getD, hx]; rfl
  have h0 : t.2.2.2.1[i]? = some (t.2.2.2.1.getD i tIns.dflt) := by rw [List.getD_eq_getElem?_getD, List.getElem?_eq_getElem hi]; rfl
  obtain ⟨h1, h2⟩ := hc.ins i _ h0
  rw [ex, ← (sameK_out p t).formed]
  rcases drop_is t i (t.2.2.2.1.getD i tIns.dflt) with e | ⟨ho, e⟩
  ·rw [e]; exact ⟨h1, h2⟩
  ·rw [e]; exact ⟨h1, formed_drop (x := t.2.2.2.1.getD i tIns.dflt) h2 ho⟩
 turn0 := hc.turn0
 turn1 := fun h => by rw [← (sameK_out p t).right]; exact hc.turn1 h
 back := by
  rw [← (sameK_out p t).right]
  show t.2.2.2.2.2.2.1 = t.2.1 ∧ rightXF (chkOf p t) t.2.2.2.2.2.2 ((outI t).length : Int) = true
  rw [outI_len]; exact hc.back
 exits := fun x hx => by
  rw [← (sameK_out p t).right]
  show rightXF (chkOf p t) x ((outI t).length : Int) = true
  rw [outI_len]; exact hc.exits x hx
theorem outI_out {p : EProg} {t : ETrace} (hc : CheckOk p t) : outI (spanOut t) = outI t := by
 apply List.ext_getElem
 ·rw [outI_len, outI_len]; exact outI_len t
 ·intro j h1 h2
  have hj : j < t.2.2.2.1.length := by rw [← outI_len t]; exact h2
  have hj' : j < (spanOut t).2.2.2.1.length := h2
  have e1 := outI_at (t := spanOut t) hj'
  have e2 := outI_at hj
  have e3 : (spanOut t).2.2.2.1.getD j tIns.dflt = dropE t j (t.2.2.2.1.getD j tIns.dflt) := e2
  rw [e3] at e1
  rw [List.getD_eq_getElem?_getD, List.getElem?_eq_getElem h1] at e1
  rw [List.getD_eq_getElem?_getD, List.getElem?_eq_getElem h2] at e2
  refine Eq.trans e1 (Eq.trans ?_ (Eq.symm e2))
  generalize hX : t.2.2.2.1.getD j tIns.dflt = X
  by_cases hq : (X.1 = 7 ∨ X.1 = 8) ∧ 0 ≤ X.2.2.2.2.2.1 ∧ neverF t j = true
  ·rw [drop_yes hq.1 hq.2.1 hq.2.2]
   exact drop_no1 (by simp)
  ·have e : dropE t j X = X := if_neg hq
   rw [e]
   refine if_neg fun hr => hq ⟨hr.1, hr.2.1, ?_⟩
   rw [neverF_same (sameX_out t) (dom_of hc).toDomT (i := (j : Int)) (by omega) (by omega) (by show (t.2.2.2.1.getD j tIns.dflt).1 = 7 ∨ (t.2.2.2.1.getD j tIns.dflt).1 = 8; rw [hX]; exact hr.1)]
   exact hr.2.2
theorem span_twice {p : EProg} {t : ETrace} (h : (spanDo p t).2 = 0) : spanDo p t = (spanOut t, 0) ∧ spanDo p (spanOut t) = (spanOut t, 0) := by
 unfold spanDo at h
 by_cases h0 : checkF p t = 0
 ·have hc := check_iff.1 h0
  have ho := out_ok hc
  have c1 := cut_all ho
  have e1 : (spanOut t).2.2.2.1.length = t.2.2.2.1.length := outI_len t
  rw [e1] at c1
  refine ⟨by rw [spanDo, if_pos h0, c1], ?_⟩
  have e2 : spanOut (spanOut t) = spanOut t := by
   show ((spanOut t).1, (spanOut t).2.1, (spanOut t).2.2.1, outI (spanOut t), (spanOut t).2.2.2.2) = _
   rw [outI_out hc]
   rfl
  rw [spanDo, if_pos (check_iff.2 ho), e2, e1, c1]
 ·rw [if_neg h0] at h
  exact absurd h h0
noncomputable def oc113 : Orc where
 pure := fun f args => match f, args with
  | 15, [] => some (.c (.bool (true)))
  | 16, [a0, a1] => match dA tTrace a0, dA tTrace a1 with
   | some x0, some x1 => some (.c (.bool (decide (x0 = x1))))
   | _, _ => none
  | 32, [a0, a1] => match dA tProg a0, dA tTrace a1 with
   | some x0, some x1 => some (.tup [.agg (Ty.enc tTrace ((spanDo x0 x1).1)), .c (.int .i64 ((spanDo x0 x1).2))])
   | _, _ => none
  | _, _ => none
 heap := fun _ _ _ => none
def spanTwice_lv : LV := ⟨([]), []⟩
noncomputable def spanTwice_T (p : EProg) (t : ETrace) : Tree :=
 .call 32 [.agg (Ty.enc tProg p), .agg (Ty.enc tTrace t)] false (.tup [.agg (Ty.enc tTrace (spanDo p t).1), .c (.int .i64 (spanDo p t).2)]) <|
 .ite ((!(decide ((spanDo p t).2 = 0))))
 (.call 15 [] false (.c (.bool true)) <|
  .ret (.c (.bool true)) [.cells 39 (Ty.enc tProg p), .cells 29 (Ty.enc tTrace t), .cells 29 (Ty.enc tTrace (spanDo p t).1)])
 (.call 32 [.agg (Ty.enc tProg p), .agg (Ty.enc tTrace (spanDo p t).1)] false (.tup [.agg (Ty.enc tTrace (spanDo p (spanDo p t).1).1), .c (.int .i64 (spanDo p (spanDo p t).1).2)]) <|
  .call 15 [] false (.c (.bool true)) <|
  .ite (true)
  (.ite (decide ((spanDo p (spanDo p t).1).2 = 0))
  (.call 16 [.agg (Ty.enc tTrace (spanDo p (spanDo p t).1).1), .agg (Ty.enc tTrace (spanDo p t).1)] false (.c (.bool (decide ((spanDo p (spanDo p t).1).1 = (spanDo p t).1)))) <|
   .ret (.c (.bool (decide ((spanDo p (spanDo p t).1).1 = (spanDo p t).1)))) [.cells 39 (Ty.enc tProg p), .cells 29 (Ty.enc tTrace t), .cells 29 (Ty.enc tTrace (spanDo p t).1), .cells 29 (Ty.enc tTrace (spanDo p (spanDo p t).1).1)])
  (.ret (.c (.lit false)) [.cells 39 (Ty.enc tProg p), .cells 29 (Ty.enc tTrace t), .cells 29 (Ty.enc tTrace (spanDo p t).1), .cells 29 (Ty.enc tTrace (spanDo p (spanDo p t).1).1)]))
  (.ret (.c (.lit false)) [.cells 39 (Ty.enc tProg p), .cells 29 (Ty.enc tTrace t), .cells 29 (Ty.enc tTrace (spanDo p t).1), .cells 29 (Ty.enc tTrace (spanDo p (spanDo p t).1).1)]))
theorem spanTwice_T_ok (p : EProg) (t : ETrace) : aRun Tryd.prog oc113 Tryd.f12 spanTwice_lv 3000 [.code (bodyOf Tryd.f12)] ([.agg (tProg.enc p), .agg (tTrace.enc t)] ++ List.replicate (Func.ntmps Tryd.f12 - 2) .junk) [] = spanTwice_T p t := by kernel_rfl
theorem spanTwice_fun (p : EProg) (t : ETrace) : AFun Tryd.prog 12 [.agg (tProg.enc p), .agg (tTrace.enc t)] (.c (.bool (true))) :=
 AFun.of oc113 spanTwice_lv 3000 Tryd.func12 mixed rfl (by decide) (Nat.le_of_ble_eq_true rfl) _ (spanTwice_T_ok p t) fun hF => by
  unfold spanTwice_T
  refine g_call (spando_fun p t) (fun h => nomatch h) ?_
  refine g_iteND (fun h0 => ?_) (fun h0 => ?_)
  ·refine g_call (irred_fun) (fun h => nomatch h) ?_
   refine g_rq ?_
   exact g_rl (leAV.refl _) rfl
  ·refine g_call (spando_fun p (spanDo p t).1) (fun h => nomatch h) ?_
   refine g_call (irred_fun) (fun h => nomatch h) ?_
   refine g_ite (fun h1 => ?_) (fun h1 => ?_)
   ·refine g_iteD (fun h2 => ?_) (fun h2 => ?_)
    ·refine g_call (sameT_fun (spanDo p (spanDo p t).1).1 (spanDo p t).1) (fun h => nomatch h) ?_
     refine g_rq ?_
     exact g_rl ((show (decide ((spanDo p (spanDo p t).1).1 = (spanDo p t).1) : Bool) = true from by first | rfl | (exfalso; simp_all; done) | (have q := span_twice (p := p) (t := t) (by assumption); rw [q.1, q.2]; exact decide_eq_true rfl) | (exfalso; have q := span_twice (p := p) (t := t) h0; exact h2 (by rw [q.1]; exact congrArg Prod.snd q.2)))) rfl
    ·refine g_rq ?_
     exact g_rl ((show (false : Bool) = true from by first | rfl | (exfalso; simp_all; done) | (have q := span_twice (p := p) (t := t) (by assumption); rw [q.1, q.2]; exact decide_eq_true rfl) | (exfalso; have q := span_twice (p := p) (t := t) h0; exact h2 (by rw [q.1]; exact congrArg Prod.snd q.2)))) rfl
   ·refine g_rq ?_
    exact g_rl ((show (false : Bool) = true from by first | rfl | (exfalso; simp_all; done) | (have q := span_twice (p := p) (t := t) (by assumption); rw [q.1, q.2]; exact decide_eq_true rfl) | (exfalso; have q := span_twice (p := p) (t := t) h0; exact h2 (by rw [q.1]; exact congrArg Prod.snd q.2)))) rfl

end Go.Proofs.YtefkifdhjabdiaaDoor
