/- What the laws' texts lean on, part 4: lemmas and the contracts of functions. No condition. -/
import Derived.Test.YtkonkblfckhcbaaGreatDoorM2
import Derived.Test.YtkonkblfckhcbaaGreatDoorM1
import Derived.DeepKeys4
namespace Go.Proofs.YtkonkblfckhcbaaGreatDoor
set_option maxHeartbeats 4000000
set_option linter.unusedVariables false
set_option linter.unusedSimpArgs false
set_option maxRecDepth 100000
abbrev tLook : Ty := .pair tProg tFn
abbrev ELook := EProg × EFn
def lkE (l : ELook) : Lk := ⟨l.1.1.length, l.1.2.1.length, l.1.2.2.length, l.2.2.1, l.2.2.2.2.1.length, l.2.2.2.2.2.length⟩
def namesI (l : ELook) (c n : Int) : Bool :=
 if c = 114 then withinF n 0 (l.2.2.1 - 1)
 else if c = 107 then withinF n 0 ((l.1.2.1.length : Int) - 1)
 else if c = 116 then withinF n 0 ((l.1.2.2.length : Int) - 1)
 else if c = 97 then withinF n 0 ((l.2.2.2.2.2.length : Int) - 1)
 else if c = 117 then withinF n 0 ((l.2.2.2.2.1.length : Int) - 1)
 else if c = 102 then withinF n 1 ((l.1.1.length : Int) - 1)
 else if c = 108 then withinF n 0 l.2.2.1 else if c = 99 then withinF n 0 l.2.2.1 else if c = 110 then withinF n 0 l.2.2.1
 else decide (n = 0)
theorem u8_eq (c : UInt8) (k : Nat) (hk : k < 256) : ((c.toNat : Int) = (k : Int)) ↔ c = UInt8.ofNat k := by
 constructor
 ·intro h
  apply UInt8.toNat_inj.1
  rw [UInt8.toNat_ofNat', Nat.mod_eq_of_lt hk]; omega
 ·intro h; rw [h, UInt8.toNat_ofNat', Nat.mod_eq_of_lt hk]
theorem namesI_eq (l : ELook) (c : UInt8) (n : Int) : namesI l (c.toNat : Int) n = namesF (lkE l) c n := by
 have e : ∀ k : Nat, k < 256 → (((c.toNat : Int) = (k : Int)) ↔ c = UInt8.ofNat k) := u8_eq c
 have e1 := e 114 (by omega)
 have e2 := e 107 (by omega)
 have e3 := e 116 (by omega)
 have e4 := e 97 (by omega)
 have e5 := e 117 (by omega)
 have e6 := e 102 (by omega)
 have e7 := e 108 (by omega)
 have e8 := e 99 (by omega)
 have e9 := e 110 (by omega)
 unfold namesI namesF lkE
 simp only [show ((c.toNat : Int) = 114) ↔ c = 114 from e1, show ((c.toNat : Int) = 107) ↔ c = 107 from e2, show ((c.toNat : Int) = 116) ↔ c = 116 from e3, show ((c.toNat : Int) = 97) ↔ c = 97 from e4, show ((c.toNat : Int) = 117) ↔ c = 117 from e5, show ((c.toNat : Int) = 102) ↔ c = 102 from e6, show ((c.toNat : Int) = 108) ↔ c = 108 from e7, show ((c.toNat : Int) = 99) ↔ c = 99 from e8, show ((c.toNat : Int) = 110) ↔ c = 110 from e9]
 by_cases h7 : c = 108
 ·simp [h7]
 ·by_cases h8 : c = 99
  ·simp [h8]
  ·simp [h7, h8]
noncomputable def oc40 : Orc where
 pure := fun f args => match f, args with
  | _, _ => none
 heap := fun _ _ _ => none
def within_lv : LV := ⟨([]), []⟩
noncomputable def within_T (n : Int) (a : Int) (b : Int) : Tree :=
 .ite (decide (a ≤ n))
 (.ret (.c (.bool (decide (n ≤ b)))) [])
 (.ret (.c (.lit false)) [])
theorem within_fun (n : Int) (a : Int) (b : Int) : AFun Tryz.prog 196 [.c (.int .i64 n), .c (.int .i64 a), .c (.int .i64 b)] (.c (.bool (withinF n a b))) :=
 AFun.of oc40 within_lv 3000 Tryz.func196 mixed rfl (by decide) (Nat.le_of_ble_eq_true rfl) (within_T n a b) (by kernel_rfl) fun hF => by
  unfold within_T
  refine g_iteD (fun h0 => ?_) (fun h0 => ?_)
  ·exact g_retb (by simp only [withinF, h0, if_true, if_false, Int.reduceEq, reduceIte, decide_true, decide_false, Bool.and_true, Bool.and_false, Bool.true_and, Bool.false_and])
  ·exact g_retl (by simp only [withinF, h0, if_true, if_false, Int.reduceEq, reduceIte, decide_true, decide_false, Bool.and_true, Bool.and_false, Bool.true_and, Bool.false_and])

noncomputable def oc41 : Orc where
 pure := fun f args => match f, args with
  | 196, [a0, a1, a2] => match dA tI a0, dA tI a1, dA tI a2 with
   | some x0, some x1, some x2 => some (.c (.bool (withinF x0 x1 x2)))
   | _, _, _ => none
  | _, _ => none
 heap := fun _ _ _ => none
def lreg_lv : LV := ⟨([]), []⟩
noncomputable def lreg_T (l : ELook) (n : Int) : Tree :=
 .need (inR .i64 (l.2.2.1 - 1)) <|
 .call 196 [.c (.int .i64 n), .c (.int .i64 0), .c (.int .i64 (l.2.2.1 - 1))] false (.c (.bool (withinF n 0 (l.2.2.1 - 1)))) <|
 .ret (.c (.bool (withinF n 0 (l.2.2.1 - 1)))) [.cells 233 (Ty.enc tLook l)]
theorem lreg_fun (l : ELook) (n : Int) (hr : 0 ≤ l.2.2.1) : AFun Tryz.prog 198 [.agg (tLook.enc l), .c (.int .i64 n)] (.c (.bool (withinF n 0 (l.2.2.1 - 1)))) :=
 AFun.of oc41 lreg_lv 3000 Tryz.func198 mixed rfl (by decide) (Nat.le_of_ble_eq_true rfl) (lreg_T l n) (by kernel_rfl) fun hF => by
  have hb := i64_iff.1 hF.agg.1.2.2.1
  unfold lreg_T
  refine g_need (i64_iff.2 (by omega)) ?_
  refine g_call (within_fun n 0 (l.2.2.1 - 1)) (fun h => nomatch h) ?_
  exact g_retb (by rfl)

noncomputable def oc42 : Orc where
 pure := fun f args => match f, args with
  | 196, [a0, a1, a2] => match dA tI a0, dA tI a1, dA tI a2 with
   | some x0, some x1, some x2 => some (.c (.bool (withinF x0 x1 x2)))
   | _, _, _ => none
  | _, _ => none
 heap := fun _ _ _ => none
def ltext_lv : LV := ⟨([]), []⟩
noncomputable def ltext_T (l : ELook) (n : Int) : Tree :=
 .need (inR .i64 ((l.1.2.2.length : Int) - 1)) <|
 .call 196 [.c (.int .i64 n), .c (.int .i64 0), .c (.int .i64 ((l.1.2.2.length : Int) - 1))] false (.c (.bool (withinF n 0 ((l.1.2.2.length : Int) - 1)))) <|
 .ret (.c (.bool (withinF n 0 ((l.1.2.2.length : Int) - 1)))) [.cells 233 (Ty.enc tLook l)]
theorem ltext_fun (l : ELook) (n : Int) : AFun Tryz.prog 221 [.agg (tLook.enc l), .c (.int .i64 n)] (.c (.bool (withinF n 0 ((l.1.2.2.length : Int) - 1)))) :=
 AFun.of oc42 ltext_lv 3000 Tryz.func221 mixed rfl (by decide) (Nat.le_of_ble_eq_true rfl) (ltext_T l n) (by kernel_rfl) fun hF => by
  have hb := hF.agg.1.1.2.2.1
  unfold ltext_T
  refine g_need (i64_iff.2 (by omega)) ?_
  refine g_call (within_fun n 0 ((l.1.2.2.length : Int) - 1)) (fun h => nomatch h) ?_
  exact g_retb (by rfl)

noncomputable def oc43 : Orc where
 pure := fun f args => match f, args with
  | 196, [a0, a1, a2] => match dA tI a0, dA tI a1, dA tI a2 with
   | some x0, some x1, some x2 => some (.c (.bool (withinF x0 x1 x2)))
   | _, _, _ => none
  | _, _ => none
 heap := fun _ _ _ => none
def lat_lv : LV := ⟨([]), []⟩
noncomputable def lat_T (l : ELook) (n : Int) : Tree :=
 .need (inR .i64 ((l.2.2.2.2.2.length : Int) - 1)) <|
 .call 196 [.c (.int .i64 n), .c (.int .i64 0), .c (.int .i64 ((l.2.2.2.2.2.length : Int) - 1))] false (.c (.bool (withinF n 0 ((l.2.2.2.2.2.length : Int) - 1)))) <|
 .ret (.c (.bool (withinF n 0 ((l.2.2.2.2.2.length : Int) - 1)))) [.cells 233 (Ty.enc tLook l)]
theorem lat_fun (l : ELook) (n : Int) : AFun Tryz.prog 222 [.agg (tLook.enc l), .c (.int .i64 n)] (.c (.bool (withinF n 0 ((l.2.2.2.2.2.length : Int) - 1)))) :=
 AFun.of oc43 lat_lv 3000 Tryz.func222 mixed rfl (by decide) (Nat.le_of_ble_eq_true rfl) (lat_T l n) (by kernel_rfl) fun hF => by
  have hb := hF.agg.1.2.2.2.2.2.1
  unfold lat_T
  refine g_need (i64_iff.2 (by omega)) ?_
  refine g_call (within_fun n 0 ((l.2.2.2.2.2.length : Int) - 1)) (fun h => nomatch h) ?_
  exact g_retb (by rfl)

noncomputable def oc44 : Orc where
 pure := fun f args => match f, args with
  | 196, [a0, a1, a2] => match dA tI a0, dA tI a1, dA tI a2 with
   | some x0, some x1, some x2 => some (.c (.bool (withinF x0 x1 x2)))
   | _, _, _ => none
  | 198, [a0, a1] => match dA tLook a0, dA tI a1 with
   | some x0, some x1 => some (.c (.bool (withinF x1 0 (x0.2.2.1 - 1))))
   | _, _ => none
  | 221, [a0, a1] => match dA tLook a0, dA tI a1 with
   | some x0, some x1 => some (.c (.bool (withinF x1 0 ((x0.1.2.2.length : Int) - 1))))
   | _, _ => none
  | 222, [a0, a1] => match dA tLook a0, dA tI a1 with
   | some x0, some x1 => some (.c (.bool (withinF x1 0 ((x0.2.2.2.2.2.length : Int) - 1))))
   | _, _ => none
  | _, _ => none
 heap := fun _ _ _ => none
def lnames_lv : LV := ⟨([]), []⟩
noncomputable def lnames_T (l : ELook) (c : Int) (n : Int) : Tree :=
 .ite (decide (c = 114))
 (.call 198 [.agg (Ty.enc tLook l), .c (.int .i64 n)] false (.c (.bool (withinF n 0 (l.2.2.1 - 1)))) <|
  .ret (.c (.bool (withinF n 0 (l.2.2.1 - 1)))) [.cells 233 (Ty.enc tLook l)])
 (.ite (decide (c = 107))
  (.need (inR .i64 ((l.1.2.1.length : Int) - 1)) <|
  .call 196 [.c (.int .i64 n), .c (.int .i64 0), .c (.int .i64 ((l.1.2.1.length : Int) - 1))] false (.c (.bool (withinF n 0 ((l.1.2.1.length : Int) - 1)))) <|
  .ret (.c (.bool (withinF n 0 ((l.1.2.1.length : Int) - 1)))) [.cells 233 (Ty.enc tLook l)])
  (.ite (decide (c = 116))
  (.call 221 [.agg (Ty.enc tLook l), .c (.int .i64 n)] false (.c (.bool (withinF n 0 ((l.1.2.2.length : Int) - 1)))) <|
   .ret (.c (.bool (withinF n 0 ((l.1.2.2.length : Int) - 1)))) [.cells 233 (Ty.enc tLook l)])
  (.ite (decide (c = 97))
   (.call 222 [.agg (Ty.enc tLook l), .c (.int .i64 n)] false (.c (.bool (withinF n 0 ((l.2.2.2.2.2.length : Int) - 1)))) <|
   .ret (.c (.bool (withinF n 0 ((l.2.2.2.2.2.length : Int) - 1)))) [.cells 233 (Ty.enc tLook l)])
   (.ite (decide (c = 117))
   (.need (inR .i64 ((l.2.2.2.2.1.length : Int) - 1)) <|
    .call 196 [.c (.int .i64 n), .c (.int .i64 0), .c (.int .i64 ((l.2.2.2.2.1.length : Int) - 1))] false (.c (.bool (withinF n 0 ((l.2.2.2.2.1.length : Int) - 1)))) <|
    .ret (.c (.bool (withinF n 0 ((l.2.2.2.2.1.length : Int) - 1)))) [.cells 233 (Ty.enc tLook l)])
   (.ite (decide (c = 102))
    (.need (inR .i64 ((l.1.1.length : Int) - 1)) <|
    .call 196 [.c (.int .i64 n), .c (.int .i64 1), .c (.int .i64 ((l.1.1.length : Int) - 1))] false (.c (.bool (withinF n 1 ((l.1.1.length : Int) - 1)))) <|
    .ret (.c (.bool (withinF n 1 ((l.1.1.length : Int) - 1)))) [.cells 233 (Ty.enc tLook l)])
    (.ite (decide (c = 108))
    (.ite (decide (c = 108))
     (.call 196 [.c (.int .i64 n), .c (.int .i64 0), .c (.int .i64 l.2.2.1)] false (.c (.bool (withinF n 0 l.2.2.1))) <|
     .ret (.c (.bool (withinF n 0 l.2.2.1))) [.cells 233 (Ty.enc tLook l)])
     (.ret (.c (.bool (decide (n = 0)))) [.cells 233 (Ty.enc tLook l)]))
    (.ite (decide (c = 99))
     (.ite (decide (c = 99))
     (.call 196 [.c (.int .i64 n), .c (.int .i64 0), .c (.int .i64 l.2.2.1)] false (.c (.bool (withinF n 0 l.2.2.1))) <|
      .ret (.c (.bool (withinF n 0 l.2.2.1))) [.cells 233 (Ty.enc tLook l)])
     (.ret (.c (.bool (decide (n = 0)))) [.cells 233 (Ty.enc tLook l)]))
     (.ite (decide (c = 110))
     (.call 196 [.c (.int .i64 n), .c (.int .i64 0), .c (.int .i64 l.2.2.1)] false (.c (.bool (withinF n 0 l.2.2.1))) <|
      .ret (.c (.bool (withinF n 0 l.2.2.1))) [.cells 233 (Ty.enc tLook l)])
     (.ret (.c (.bool (decide (n = 0)))) [.cells 233 (Ty.enc tLook l)])))))))))
theorem lnames_fun (l : ELook) (c : Int) (n : Int) (hr : 0 ≤ l.2.2.1) : AFun Tryz.prog 197 [.agg (tLook.enc l), .c (.int .u8 c), .c (.int .i64 n)] (.c (.bool (namesI l c n))) :=
 AFun.of oc44 lnames_lv 3000 Tryz.func197 mixed rfl (by decide) (Nat.le_of_ble_eq_true rfl) (lnames_T l c n) (by kernel_rfl) fun hF => by
  have hb := hF.agg.1.2.2.2.2.2.1
  have hb2 := hF.agg.1.1.2.2.1
  have hb3 := hF.agg.1.1.2.1.1
  have hb4 := hF.agg.1.1.1.1
  have hb5 := hF.agg.1.2.2.2.2.1.1
  unfold lnames_T
  refine g_iteD (fun h0 => ?_) (fun h0 => ?_)
  ·refine g_call (lreg_fun l n (by omega)) (fun h => nomatch h) ?_
   exact g_retb (by simp only [namesI, h0, if_true, if_false, Int.reduceEq, reduceIte])
  ·refine g_iteD (fun h1 => ?_) (fun h1 => ?_)
   ·refine g_need (i64_iff.2 (by omega)) ?_
    refine g_call (within_fun n 0 ((l.1.2.1.length : Int) - 1)) (fun h => nomatch h) ?_
    exact g_retb (by simp only [namesI, h0, h1, if_true, if_false, Int.reduceEq, reduceIte])
   ·refine g_iteD (fun h2 => ?_) (fun h2 => ?_)
    ·refine g_call (ltext_fun l n) (fun h => nomatch h) ?_
     exact g_retb (by simp only [namesI, h0, h1, h2, if_true, if_false, Int.reduceEq, reduceIte])
    ·refine g_iteD (fun h3 => ?_) (fun h3 => ?_)
     ·refine g_call (lat_fun l n) (fun h => nomatch h) ?_
      exact g_retb (by simp only [namesI, h0, h1, h2, h3, if_true, if_false, Int.reduceEq, reduceIte])
     ·refine g_iteD (fun h4 => ?_) (fun h4 => ?_)
      ·refine g_need (i64_iff.2 (by omega)) ?_
       refine g_call (within_fun n 0 ((l.2.2.2.2.1.length : Int) - 1)) (fun h => nomatch h) ?_
       exact g_retb (by simp only [namesI, h0, h1, h2, h3, h4, if_true, if_false, Int.reduceEq, reduceIte])
      ·refine g_iteD (fun h5 => ?_) (fun h5 => ?_)
       ·refine g_need (i64_iff.2 (by omega)) ?_
        refine g_call (within_fun n 1 ((l.1.1.length : Int) - 1)) (fun h => nomatch h) ?_
        exact g_retb (by simp only [namesI, h0, h1, h2, h3, h4, h5, if_true, if_false, Int.reduceEq, reduceIte])
       ·refine g_iteD (fun h6 => ?_) (fun h6 => ?_)
        ·refine g_iteD (fun h7 => ?_) (fun h7 => ?_)
         ·refine g_call (within_fun n 0 l.2.2.1) (fun h => nomatch h) ?_
          exact g_retb (by simp only [namesI, h0, h1, h2, h3, h4, h5, h6, h7, if_true, if_false, Int.reduceEq, reduceIte])
         ·exact g_retb (by exfalso; omega)
        ·refine g_iteD (fun h7 => ?_) (fun h7 => ?_)
         ·refine g_iteD (fun h8 => ?_) (fun h8 => ?_)
          ·refine g_call (within_fun n 0 l.2.2.1) (fun h => nomatch h) ?_
           exact g_retb (by simp only [namesI, h0, h1, h2, h3, h4, h5, h6, h7, h8, if_true, if_false, Int.reduceEq, reduceIte])
          ·exact g_retb (by exfalso; omega)
         ·refine g_iteD (fun h8 => ?_) (fun h8 => ?_)
          ·refine g_call (within_fun n 0 l.2.2.1) (fun h => nomatch h) ?_
           exact g_retb (by simp only [namesI, h0, h1, h2, h3, h4, h5, h6, h7, h8, if_true, if_false, Int.reduceEq, reduceIte])
          ·exact g_retb (by simp only [namesI, h0, h1, h2, h3, h4, h5, h6, h7, h8, if_true, if_false, Int.reduceEq, reduceIte])

noncomputable def oc45 : Orc where
 pure := fun f args => match f, args with
  | 196, [a0, a1, a2] => match dA tI a0, dA tI a1, dA tI a2 with
   | some x0, some x1, some x2 => some (.c (.bool (withinF x0 x1 x2)))
   | _, _, _ => none
  | 198, [a0, a1] => match dA tLook a0, dA tI a1 with
   | some x0, some x1 => some (.c (.bool (withinF x1 0 (x0.2.2.1 - 1))))
   | _, _ => none
  | _, _ => none
 heap := fun _ _ _ => none
def lc1_lv : LV := ⟨([]), []⟩
abbrev gCq2 (l : ELook) (f : EFn) : List AB := [.cells 233 (Ty.enc tLook l), .cells 104 (Ty.enc tFn f)]
noncomputable def lc1_T (c : Int) (l : ELook) (f : EFn) : Tree :=
 .call 198 [.agg (Ty.enc tLook l), .c (.int .i64 c)] false (.c (.bool (withinF c 0 (l.2.2.1 - 1)))) <|
 .ite ((!(withinF c 0 (l.2.2.1 - 1))))
 (.need (inR .i64 (0 - (l.2.2.2.2.1.length : Int))) <|
  .call 196 [.c (.int .i64 c), .c (.int .i64 (0 - (l.2.2.2.2.1.length : Int))), .c (.int .i64 (-1))] false (.c (.bool (withinF c (0 - (l.2.2.2.2.1.length : Int)) (-1)))) <|
  .ret (.c (.bool (!(withinF c (0 - (l.2.2.2.2.1.length : Int)) (-1))))) (gCq2 l f))
 (.ret (.c (.lit false)) (gCq2 l f))
theorem lc1_fun (c : Int) (l : ELook) (f : EFn) (hr : 0 ≤ l.2.2.1) : AFunH Tryz.prog 223 [.c (.int .i64 c), .c (.ptr 0 0 0 0)] (gCq2 l f) (.c (.bool ((!withinF c 0 (l.2.2.1 - 1) && !withinF c (-(l.2.2.2.2.1.length : Int)) (-1))))) (gCq2 l f) (List.range 2) :=
 AFunH.of oc45 lc1_lv 3000 Tryz.func223 mixed rfl (by decide) (Nat.le_of_ble_eq_true rfl) rfl rfl (Nat.le_refl _) (lc1_T c l f) (by kernel_rfl) fun hF => by
  have hb : (l.2.2.2.2.1.length : Int) ≤ 9223372036854775807 := by have q := hF.blk (b := 0) (t := tLook) (x := l) rfl; have q2 := q.2.2.2.2.1.1; omega
  unfold lc1_T
  repeat' first
  | with_reducible refine g_iteN (fun h => ?_) (fun h => ?_)
  | refine g_need (i64_iff.2 (by omega)) ?_
  | refine g_call (lreg_fun l c (by omega)) (fun h => nomatch h) ?_
  | refine g_call (within_fun c (0 - (l.2.2.2.2.1.length : Int)) (-1)) (fun h => nomatch h) ?_
  | (exact g_rh [0, 1] (kk rfl) (by decide) (by simp only [renA, ren1, renC, leAV, leA1, leC]; simp_all) rfl)

def fstF (q : Int → Bool) : Nat → List Int → Int
 | _, [] => -1
 | i, f :: r => if q f = true then (i : Int) else fstF q (i + 1) r
theorem fstF_ge {q : Int → Bool} : ∀ {l : List Int} {i : Nat}, decide (0 ≤ fstF q i l) = l.any q
 | [], i => rfl
 | f :: r, i => by
  unfold fstF
  rw [List.any_cons]
  split
  ·rename_i h; rw [h]; simp
  ·rename_i h; rw [fstF_ge (l := r)]; simp only [Bool.not_eq_true] at h; rw [h]; rfl
def outB (l : ELook) (c : Int) : Bool := !withinF c 0 (l.2.2.1 - 1) && !withinF c (-(l.2.2.2.2.1.length : Int)) (-1)
noncomputable def oc46 : Orc where
 pure := fun f args => match f, args with
  | _, _ => none
 heap := fun f args H => match f, args with
  | 223, [a0, .one (.c (.ptr 0 0 0 0))] => match H with
   | [b0, b1] => (match dA tI a0, dB 233 tLook b0, dB 104 tFn b1 with
    | some x0, some y0, some y1 => some (.c (.bool ((!withinF x0 0 (y0.2.2.1 - 1) && !withinF x0 (-(y0.2.2.2.2.1.length : Int)) (-1)))), [b0, b1], List.range 2)
    | _, _, _ => none)
   | _ => none
  | _, _ => none
def idxC_lv : LV := ⟨(true :: true :: F4 (false :: true :: true :: F8 (F2 ([])))), []⟩
noncomputable def idxC_T (xs : List Int) (l : ELook) (f : EFn) : Tree :=
 .stop (lp (bodyOf Tryz.f138) 0) (.c (.ro tI xs) :: .c (.fnc (.fn0 223) (.ptr 0 0 0 0)) :: J4 (.junk :: .c (.int .i64 (xs.length : Int)) :: .c (.int .i64 0) :: J8 (J2 ([])))) (gCq2 l f)
noncomputable def idxC_l0_R (xs : List Int) (l : ELook) (f : EFn) (i : Nat) : Tree :=
 .ite (decide (((i : Nat) : Int) < (xs.length : Int)))
 (.need ((0 : Int) ≤ ((i : Nat) : Int) ∧ (((i : Nat) : Int) : Int) < (xs.length : Int)) <|
  .need (i < xs.length) <|
  .callH 223 [.c (.int .i64 (xs.getD i tI.dflt)), .c (.ptr 0 0 0 0)] (gCq2 l f) (.c (.bool (!withinF (xs.getD i tI.dflt) 0 (l.2.2.1 - 1) && !withinF (xs.getD i tI.dflt) (-(l.2.2.2.2.1.length : Int)) (-1)))) (gCq2 l f) [0, 1] <|
  .ite ((!withinF (xs.getD i tI.dflt) 0 (l.2.2.1 - 1) && !withinF (xs.getD i tI.dflt) (-(l.2.2.2.2.1.length : Int)) (-1)))
  (.ret (.c (.int .i64 ((i : Nat) : Int))) (gCq2 l f))
  (.need (inR .i64 (((i : Nat) : Int) + 1)) <|
  .stop (lp (bodyOf Tryz.f138) 0) (.c (.ro tI xs) :: .c (.fnc (.fn0 223) (.ptr 0 0 0 0)) :: J4 (.junk :: .c (.int .i64 (xs.length : Int)) :: .c (.int .i64 (((i : Nat) : Int) + 1)) :: J8 (J2 ([])))) (gCq2 l f)))
 (.ret (.c (.int .i64 (-1))) (gCq2 l f))
theorem idxC_l0 (xs : List Int) (l : ELook) (f : EFn) (i : Nat) (hl : xs.length ≤ 9223372036854775807) (hr : 0 ≤ l.2.2.1) : RunN 2 Tryz.prog 138 (retH 2 (.c (.int .i64 (fstF (outB l) i (xs.drop i)))) (gCq2 l f)) (lp (bodyOf Tryz.f138) 0) (.c (.ro tI xs) :: .c (.fnc (.fn0 223) (.ptr 0 0 0 0)) :: J4 (.junk :: .c (.int .i64 (xs.length : Int)) :: .c (.int .i64 ((i : Nat) : Int)) :: J8 (J2 ([])))) (gCq2 l f) :=
 Run.roundA oc46 idxC_lv 3000 Tryz.func138 mixed (idxC_l0_R xs l f i) (by kernel_rfl) (by
  unfold idxC_l0_R
  repeat' first
  | with_reducible refine g_iteD (fun h => ?_) (fun h => ?_)
  | with_reducible refine g_ite (fun h => ?_) (fun h => ?_)
  | refine g_need (by first | (omega) | exact i64_iff.2 (by omega)) ?_
  | refine g_callH (lc1_fun (xs.getD i tI.dflt) l f hr) ?_
  | (exact g_rh [0, 1] (kk rfl) (by decide) (by simp only [renA, ren1, renC, leAV, leA1, leC]; refine ⟨trivial, ?_⟩; first | (rw [dropCons (α := Int) (Ty.dflt tI) (by omega)]; simp only [fstF, outB, *, if_true]; done) | (rw [List.drop_eq_nil_of_le (by omega)]; rfl)) rfl)
  | (refine g_stop (RunN.keep [0, 1] (true :: true :: F4 (false :: true :: true :: F8 (F2 ([])))) (kk rfl) (by decide) rfl rfl ?_); have := idxC_l0 xs l f (i + 1) hl hr; rw [dropCons (α := Int) (Ty.dflt tI) (by omega)]; simp only [fstF, outB, *, if_false, Bool.false_eq_true]; exact this)
  )
 termination_by xs.length - i
 decreasing_by all_goals omega
theorem idxC_fun (xs : List Int) (l : ELook) (f : EFn) (hr : 0 ≤ l.2.2.1) : AFunH Tryz.prog 138 [.c (.ro tI xs), .c (.fnc (.fn0 223) (.ptr 0 0 0 0))] (gCq2 l f) (.c (.int .i64 (fstF (outB l) 0 xs))) (gCq2 l f) (List.range 2) :=
 AFunH.of oc46 idxC_lv 3000 Tryz.func138 mixed rfl (by decide) (Nat.le_of_ble_eq_true rfl) rfl rfl (Nat.le_refl _) (idxC_T xs l f) (by kernel_rfl) fun hF => by
  have hl : xs.length ≤ 9223372036854775807 := (hF.ro (i := 0) rfl).1
  unfold idxC_T
  refine g_stop (RunN.keep [0, 1] (true :: true :: F4 (false :: true :: true :: F8 (F2 ([])))) (kk rfl) (by decide) rfl rfl ?_)
  exact idxC_l0 xs l f 0 hl hr

noncomputable def oc47 : Orc where
 pure := fun f args => match f, args with
  | _, _ => none
 heap := fun f args H => match f, args with
  | 138, [a0, .one (.c (.fnc (.fn0 223) (.ptr 0 0 0 0)))] => match H with
   | [b0, b1] => (match dA (.slice tI) a0, dB 233 tLook b0, dB 104 tFn b1 with
    | some x0, some y0, some y1 => some (.c (.int .i64 (fstF (outB y0) 0 x0)), [b0, b1], List.range 2)
    | _, _, _ => none)
   | _ => none
  | _, _ => none
def conC_lv : LV := ⟨([]), []⟩
noncomputable def conC_T (xs : List Int) (l : ELook) (f : EFn) : Tree :=
 .callH 138 [.c (.ro tI xs), .c (.fnc (.fn0 223) (.ptr 0 0 0 0))] (gCq2 l f) (.c (.int .i64 (fstF (outB l) 0 xs))) (gCq2 l f) [0, 1] <|
 .ret (.c (.bool (decide ((0 : Int) ≤ fstF (outB l) 0 xs)))) (gCq2 l f)
theorem conC_fun (xs : List Int) (l : ELook) (f : EFn) (hr : 0 ≤ l.2.2.1) : AFunH Tryz.prog 78 [.c (.ro tI xs), .c (.fnc (.fn0 223) (.ptr 0 0 0 0))] (gCq2 l f) (.c (.bool (List.any xs (outB l)))) (gCq2 l f) (List.range 2) :=
 AFunH.of oc47 conC_lv 3000 Tryz.func78 mixed rfl (by decide) (Nat.le_of_ble_eq_true rfl) rfl rfl (Nat.le_refl _) (conC_T xs l f) (by kernel_rfl) fun hF => by
  unfold conC_T
  refine g_callH (idxC_fun xs l f hr) ?_
  exact g_rh [0, 1] (kk rfl) (by decide) (by simp only [renA, ren1, renC, leAV, leA1, leC]; exact fstF_ge) rfl

noncomputable def oc48 : Orc where
 pure := fun f args => match f, args with
  | _, _ => none
 heap := fun f args H => match f, args with
  | 78, [a0, .one (.c (.fnc (.fn0 223) (.ptr 0 0 0 0)))] => match H with
   | [b0, b1] => (match dA (.slice tI) a0, dB 233 tLook b0, dB 104 tFn b1 with
    | some x0, some y0, some y1 => some (.c (.bool (List.any x0 (outB y0))), [b0, b1], List.range 2)
    | _, _, _ => none)
   | _ => none
  | _, _ => none
def lcaught_lv : LV := ⟨([]), []⟩
noncomputable def lcaught_T (l : ELook) (f : EFn) : Tree :=
 .callH 78 [.c (.ro tI f.2.2.2.1), .c (.fnc (.fn0 223) (.ptr 0 0 0 0))] (gCq2 l f) (.c (.bool (List.any f.2.2.2.1 (outB l)))) (gCq2 l f) [0, 1] <|
 .ret (.c (.bool (!(List.any f.2.2.2.1 (outB l))))) (gCq2 l f)
theorem lcaught_fun (l : ELook) (f : EFn) (hr : 0 ≤ l.2.2.1) : AFun Tryz.prog 199 [.agg (tLook.enc l), .agg (tFn.enc f)] (.c (.bool (caughtF l.2.2.1 l.2.2.2.2.1.length f.2.2.2.1))) :=
 AFun.of oc48 lcaught_lv 3000 Tryz.func199 mixed rfl (by decide) (Nat.le_of_ble_eq_true rfl) (lcaught_T l f) (by kernel_rfl) fun hF => by
  unfold lcaught_T
  refine g_callH (conC_fun f.2.2.2.1 l f hr) ?_
  exact g_retb (by rfl)

def orderE (l : ELook) (a : Int) (o : EOrd) : Bool := orderF (l.1.1.map toFn) (lkE l) l.2.2.2.1 a (toOrd o)
theorem formS_some {op : Int} {a b c : UInt8} (h : formF op = some (a, b, c)) : formS op = ⟨#[a, b, c]⟩ := by unfold formS; rw [h]
theorem formS_none {op : Int} (h : formF op = none) : formS op = ByteArray.empty := by unfold formS; rw [h]; rfl
def orderT (l : ELook) (a : Int) (o : EOrd) : Bool := if o.1 = 14 then decide (o.2.1 ≤ a) else if o.1 = 19 then decide (o.2.2.1 + o.2.2.2.1 ≤ l.2.2.1) else if o.1 = 27 then withinF (o.2.2.1 + o.2.2.2.1) 0 (l.2.2.1 - 1) else if o.1 = 26 then caughtF l.2.2.1 l.2.2.2.2.1.length (l.1.1.getD o.2.2.1.toNat tFn.dflt).2.2.2.1 else if o.1 = 32 then l.2.2.2.1 else true
def namesE (l : ELook) (k : Nat) (o : EOrd) (n : Int) : Bool := namesI l (UInt8.toNat ((formS o.1)[k]!) : Int) n
theorem orderE_eq (l : ELook) (a : Int) (o : EOrd) : orderE l a o = (!(decide (formS o.1 = ByteArray.empty)) && (withinF o.2.2.2.2 0 2000 && (namesE l 0 o o.2.1 && (namesE l 1 o o.2.2.1 && (namesE l 2 o o.2.2.2.1 && orderT l a o))))) := by
 unfold orderE orderF
 simp only [toOrd]
 cases hf : formF o.1 with
 | none => rw [formS_none hf]; rfl
 | some F =>
  obtain ⟨x, y, z⟩ := F
  have hs := formS_some hf
  have hne : formS o.1 ≠ ByteArray.empty := by rw [hs]; intro h; have := congrArg ByteArray.size h; simp [ByteArray.size] at this
  rw [decide_eq_false hne]
  have e0 : namesE l 0 o o.2.1 = namesF (lkE l) x o.2.1 := by unfold namesE; rw [hs]; exact namesI_eq l x _
  have e1 : namesE l 1 o o.2.2.1 = namesF (lkE l) y o.2.2.1 := by unfold namesE; rw [hs]; exact namesI_eq l y _
  have e2 : namesE l 2 o o.2.2.2.1 = namesF (lkE l) z o.2.2.2.1 := by unfold namesE; rw [hs]; exact namesI_eq l z _
  rw [e0, e1, e2]
  simp only [Bool.not_false, Bool.true_and]
  cases hb : namesF (lkE l) y o.2.2.1 with
  | false => simp
  | true =>
   have eT : ordTailF (l.1.1.map toFn) (lkE l) l.2.2.2.1 a (toOrd o) = orderT l a o := by
    unfold ordTailF toOrd orderT lkE
    simp only
    by_cases h26 : o.1 = 26
    ·simp only [h26, Int.reduceEq, if_false, if_true]
     have h102 : y = 102 := by
      rw [h26] at hf
      have hf : some _ = some (x, y, z) := hf
      injection hf with hf
      injection hf with _ hf
      injection hf with hf _
      exact hf.symm
     subst h102
     have h1 : withinF o.2.2.1 1 ((l.1.1.length : Int) - 1) = true := hb
     rw [within_iff] at h1
     have hlt : o.2.2.1.toNat < l.1.1.length := by omega
     rw [List.getElem?_map, List.getElem?_eq_getElem hlt, List.getD_eq_getElem?_getD, List.getElem?_eq_getElem hlt]
     rfl
    ·simp only [h26, if_false]
   have eT : ordTailF (l.1.1.map toFn) (lkE l) l.2.2.2.1 a ⟨o.1, o.2.1, o.2.2.1, o.2.2.2.1, o.2.2.2.2⟩ = orderT l a o := eT
   rw [eT]
   simp only [Bool.and_assoc, Bool.true_and]
theorem form_bytes {op : Int} (h : formS op ≠ ByteArray.empty) : (formS op).size = 3 := by
 cases hf : formF op with
 | none => exact absurd (formS_none hf) h
 | some F => obtain ⟨x, y, z⟩ := F; rw [formS_some hf]; rfl
theorem names_26 {l : ELook} {o : EOrd} (ho : o.1 = 26) (h : namesI l (UInt8.toNat ((formS o.1)[1]!) : Int) o.2.2.1 = true) : 1 ≤ o.2.2.1 ∧ o.2.2.1 < (l.1.1.length : Int) := by
 rw [ho] at h
 have h : withinF o.2.2.1 1 ((l.1.1.length : Int) - 1) = true := h
 rw [within_iff] at h
 omega
theorem names_19 {l : ELook} {o : EOrd} (ho : o.1 = 19) (h1 : namesI l (UInt8.toNat ((formS o.1)[1]!) : Int) o.2.2.1 = true) (h2 : namesI l (UInt8.toNat ((formS o.1)[2]!) : Int) o.2.2.2.1 = true) : 0 ≤ o.2.2.1 ∧ o.2.2.1 ≤ l.2.2.1 ∧ 0 ≤ o.2.2.2.1 ∧ o.2.2.2.1 ≤ l.2.2.1 := by
 rw [ho] at h1 h2
 have h1 : withinF o.2.2.1 0 l.2.2.1 = true := h1
 have h2 : withinF o.2.2.2.1 0 l.2.2.1 = true := h2
 rw [within_iff] at h1 h2
 omega
theorem names_27 {l : ELook} {o : EOrd} (ho : o.1 = 27) (h1 : namesI l (UInt8.toNat ((formS o.1)[1]!) : Int) o.2.2.1 = true) (h2 : namesI l (UInt8.toNat ((formS o.1)[2]!) : Int) o.2.2.2.1 = true) : 0 ≤ o.2.2.1 ∧ o.2.2.1 ≤ l.2.2.1 ∧ 0 ≤ o.2.2.2.1 ∧ o.2.2.2.1 ≤ l.2.2.1 := by
 rw [ho] at h1 h2
 have h1 : withinF o.2.2.1 0 l.2.2.1 = true := h1
 have h2 : withinF o.2.2.2.1 0 l.2.2.1 = true := h2
 rw [within_iff] at h1 h2
 omega
noncomputable def oc49 : Orc where
 pure := fun f args => match f, args with
  | 195, [a0] => match dA tI a0 with
   | some x0 => some (.c (.str (formS x0)))
   | _ => none
  | 196, [a0, a1, a2] => match dA tI a0, dA tI a1, dA tI a2 with
   | some x0, some x1, some x2 => some (.c (.bool (withinF x0 x1 x2)))
   | _, _, _ => none
  | 197, [a0, a1, a2] => match dA tLook a0, dA (.int .u8) a1, dA tI a2 with
   | some x0, some x1, some x2 => some (.c (.bool (namesI x0 x1 x2)))
   | _, _, _ => none
  | 198, [a0, a1] => match dA tLook a0, dA tI a1 with
   | some x0, some x1 => some (.c (.bool (withinF x1 0 (x0.2.2.1 - 1))))
   | _, _ => none
  | 199, [a0, a1] => match dA tLook a0, dA tFn a1 with
   | some x0, some x1 => some (.c (.bool (caughtF x0.2.2.1 x0.2.2.2.2.1.length x1.2.2.2.1)))
   | _, _ => none
  | _, _ => none
 heap := fun _ _ _ => none
def lorder_lv : LV := ⟨([]), []⟩
abbrev gCq1 (l : ELook) (o : EOrd) : List AB := [.cells 233 (Ty.enc tLook l), .cells 235 (Ty.enc tOrd o)]
noncomputable def lorder_T (l : ELook) (a : Int) (o : EOrd) : Tree :=
 .call 195 [.c (.int .i64 o.1)] false (.c (.str (formS o.1))) <|
 .ite (decide (formS o.1 = ByteArray.empty))
 (.ret (.c (.lit false)) (gCq1 l o))
 (.call 196 [.c (.int .i64 o.2.2.2.2), .c (.int .i64 0), .c (.int .i64 2000)] false (.c (.bool (withinF o.2.2.2.2 0 2000))) <|
  .ite ((!(withinF o.2.2.2.2 0 2000)))
  (.ret (.c (.lit false)) (gCq1 l o))
  (.need ((0 : Int) ≤ 0 ∧ (0 : Int) < ((formS o.1).size : Int)) <|
  .call 197 [.agg (Ty.enc tLook l), .c (.int .u8 (UInt8.toNat ((formS o.1)[0]!) : Int)), .c (.int .i64 o.2.1)] false (.c (.bool (namesI l (UInt8.toNat ((formS o.1)[0]!) : Int) o.2.1))) <|
  .ite ((!(namesI l (UInt8.toNat ((formS o.1)[0]!) : Int) o.2.1)))
  (.ret (.c (.lit false)) (gCq1 l o))
  (.need ((0 : Int) ≤ 1 ∧ (1 : Int) < ((formS o.1).size : Int)) <|
   .call 197 [.agg (Ty.enc tLook l), .c (.int .u8 (UInt8.toNat ((formS o.1)[1]!) : Int)), .c (.int .i64 o.2.2.1)] false (.c (.bool (namesI l (UInt8.toNat ((formS o.1)[1]!) : Int) o.2.2.1))) <|
   .ite ((!(namesI l (UInt8.toNat ((formS o.1)[1]!) : Int) o.2.2.1)))
   (.ret (.c (.lit false)) (gCq1 l o))
   (.need ((0 : Int) ≤ 2 ∧ (2 : Int) < ((formS o.1).size : Int)) <|
   .call 197 [.agg (Ty.enc tLook l), .c (.int .u8 (UInt8.toNat ((formS o.1)[2]!) : Int)), .c (.int .i64 o.2.2.2.1)] false (.c (.bool (namesI l (UInt8.toNat ((formS o.1)[2]!) : Int) o.2.2.2.1))) <|
   .ite ((!(namesI l (UInt8.toNat ((formS o.1)[2]!) : Int) o.2.2.2.1)))
   (.ret (.c (.lit false)) (gCq1 l o))
   (.ite (decide (o.1 = 14))
    (.ret (.c (.bool (decide (o.2.1 ≤ a)))) (gCq1 l o))
    (.ite (decide (o.1 = 19))
    (.need (inR .i64 (o.2.2.1 + o.2.2.2.1)) <|
     .ret (.c (.bool (decide ((o.2.2.1 + o.2.2.2.1) ≤ l.2.2.1)))) (gCq1 l o))
    (.ite (decide (o.1 = 27))
     (.need (inR .i64 (o.2.2.1 + o.2.2.2.1)) <|
     .call 198 [.agg (Ty.enc tLook l), .c (.int .i64 (o.2.2.1 + o.2.2.2.1))] false (.c (.bool (withinF (o.2.2.1 + o.2.2.2.1) 0 (l.2.2.1 - 1)))) <|
     .ret (.c (.bool (withinF (o.2.2.1 + o.2.2.2.1) 0 (l.2.2.1 - 1)))) (gCq1 l o))
     (.ite (decide (o.1 = 26))
     (.need ((0 : Int) ≤ o.2.2.1 ∧ (o.2.2.1 : Int) < (l.1.1.length : Int)) <|
      .need ((Int.toNat o.2.2.1) < l.1.1.length) <|
      .call 199 [.agg (Ty.enc tLook l), .agg (Ty.enc tFn (l.1.1.getD (Int.toNat o.2.2.1) tFn.dflt))] false (.c (.bool (caughtF l.2.2.1 l.2.2.2.2.1.length (l.1.1.getD (Int.toNat o.2.2.1) tFn.dflt).2.2.2.1))) <|
      .ret (.c (.bool (caughtF l.2.2.1 l.2.2.2.2.1.length (l.1.1.getD (Int.toNat o.2.2.1) tFn.dflt).2.2.2.1))) (gCq1 l o))
     (.ite (decide (o.1 = 32))
      (.ret (.c (.bool l.2.2.2.1)) (gCq1 l o))
      (.ret (.c (.lit true)) (gCq1 l o)))))))))))
theorem lorder_fun (l : ELook) (a : Int) (o : EOrd) (hr : 0 ≤ l.2.2.1 ∧ l.2.2.1 ≤ 60) : AFun Tryz.prog 149 [.agg (tLook.enc l), .c (.int .i64 a), .agg (tOrd.enc o)] (.c (.bool (orderE l a o))) :=
 AFun.of oc49 lorder_lv 3000 Tryz.func149 mixed rfl (by decide) (Nat.le_of_ble_eq_true rfl) (lorder_T l a o) (by kernel_rfl) fun hF => by
  unfold lorder_T
  refine g_call (form_fun o.1) (fun h => nomatch h) ?_
  refine g_iteD (fun h0 => ?_) (fun h0 => ?_)
  ·exact g_retl (by rw [orderE_eq]; first | (simp only [namesE, h0, if_true, if_false, Int.reduceEq, decide_true, decide_false, Bool.not_true, Bool.not_false, Bool.false_and, Bool.true_and, Bool.and_true, reduceIte]; done) | (simp only [namesE, h0, h1, h2, h3, h4, decide_false, Bool.not_false, Bool.true_and]; simp only [orderT, h0, if_true, if_false, Int.reduceEq, reduceIte]; done))
  ·refine g_call (within_fun o.2.2.2.2 0 2000) (fun h => nomatch h) ?_
   refine g_iteN (fun h1 => ?_) (fun h1 => ?_)
   ·exact g_retl (by rw [orderE_eq]; first | (simp only [namesE, h0, h1, if_true, if_false, Int.reduceEq, decide_true, decide_false, Bool.not_true, Bool.not_false, Bool.false_and, Bool.true_and, Bool.and_true, reduceIte]; done) | (simp only [namesE, h0, h1, h2, h3, h4, decide_false, Bool.not_false, Bool.true_and]; simp only [orderT, h0, h1, if_true, if_false, Int.reduceEq, reduceIte]; done))
   ·refine g_need (by have q := form_bytes h0; omega) ?_
    refine g_call (lnames_fun l (UInt8.toNat ((formS o.1)[0]!) : Int) o.2.1 (by omega)) (fun h => nomatch h) ?_
    refine g_iteN (fun h2 => ?_) (fun h2 => ?_)
    ·exact g_retl (by rw [orderE_eq]; first | (simp only [namesE, h0, h1, h2, if_true, if_false, Int.reduceEq, decide_true, decide_false, Bool.not_true, Bool.not_false, Bool.false_and, Bool.true_and, Bool.and_true, reduceIte]; done) | (simp only [namesE, h0, h1, h2, h3, h4, decide_false, Bool.not_false, Bool.true_and]; simp only [orderT, h0, h1, h2, if_true, if_false, Int.reduceEq, reduceIte]; done))
    ·refine g_need (by have q := form_bytes h0; omega) ?_
     refine g_call (lnames_fun l (UInt8.toNat ((formS o.1)[1]!) : Int) o.2.2.1 (by omega)) (fun h => nomatch h) ?_
     refine g_iteN (fun h3 => ?_) (fun h3 => ?_)
     ·exact g_retl (by rw [orderE_eq]; first | (simp only [namesE, h0, h1, h2, h3, if_true, if_false, Int.reduceEq, decide_true, decide_false, Bool.not_true, Bool.not_false, Bool.false_and, Bool.true_and, Bool.and_true, reduceIte]; done) | (simp only [namesE, h0, h1, h2, h3, h4, decide_false, Bool.not_false, Bool.true_and]; simp only [orderT, h0, h1, h2, h3, if_true, if_false, Int.reduceEq, reduceIte]; done))
     ·refine g_need (by have q := form_bytes h0; omega) ?_
      refine g_call (lnames_fun l (UInt8.toNat ((formS o.1)[2]!) : Int) o.2.2.2.1 (by omega)) (fun h => nomatch h) ?_
      refine g_iteN (fun h4 => ?_) (fun h4 => ?_)
      ·exact g_retl (by rw [orderE_eq]; first | (simp only [namesE, h0, h1, h2, h3, h4, if_true, if_false, Int.reduceEq, decide_true, decide_false, Bool.not_true, Bool.not_false, Bool.false_and, Bool.true_and, Bool.and_true, reduceIte]; done) | (simp only [namesE, h0, h1, h2, h3, h4, decide_false, Bool.not_false, Bool.true_and]; simp only [orderT, h0, h1, h2, h3, h4, if_true, if_false, Int.reduceEq, reduceIte]; done))
      ·refine g_iteD (fun h5 => ?_) (fun h5 => ?_)
       ·exact g_retb (by rw [orderE_eq]; first | (simp only [namesE, h0, h1, h2, h3, h4, h5, if_true, if_false, Int.reduceEq, decide_true, decide_false, Bool.not_true, Bool.not_false, Bool.false_and, Bool.true_and, Bool.and_true, reduceIte]; done) | (simp only [namesE, h0, h1, h2, h3, h4, decide_false, Bool.not_false, Bool.true_and]; simp only [orderT, h0, h1, h2, h3, h4, h5, if_true, if_false, Int.reduceEq, reduceIte]; done))
       ·refine g_iteD (fun h6 => ?_) (fun h6 => ?_)
        ·refine g_need (by have q := names_19 (by assumption) h3 h4; rw [i64_iff]; omega) ?_
         exact g_retb (by rw [orderE_eq]; first | (simp only [namesE, h0, h1, h2, h3, h4, h5, h6, if_true, if_false, Int.reduceEq, decide_true, decide_false, Bool.not_true, Bool.not_false, Bool.false_and, Bool.true_and, Bool.and_true, reduceIte]; done) | (simp only [namesE, h0, h1, h2, h3, h4, decide_false, Bool.not_false, Bool.true_and]; simp only [orderT, h0, h1, h2, h3, h4, h5, h6, if_true, if_false, Int.reduceEq, reduceIte]; done))
        ·refine g_iteD (fun h7 => ?_) (fun h7 => ?_)
         ·refine g_need (by have q := names_27 (by assumption) h3 h4; rw [i64_iff]; omega) ?_
          refine g_call (lreg_fun l (o.2.2.1 + o.2.2.2.1) (by omega)) (fun h => nomatch h) ?_
          exact g_retb (by rw [orderE_eq]; first | (simp only [namesE, h0, h1, h2, h3, h4, h5, h6, h7, if_true, if_false, Int.reduceEq, decide_true, decide_false, Bool.not_true, Bool.not_false, Bool.false_and, Bool.true_and, Bool.and_true, reduceIte]; done) | (simp only [namesE, h0, h1, h2, h3, h4, decide_false, Bool.not_false, Bool.true_and]; simp only [orderT, h0, h1, h2, h3, h4, h5, h6, h7, if_true, if_false, Int.reduceEq, reduceIte]; done))
         ·refine g_iteD (fun h8 => ?_) (fun h8 => ?_)
          ·refine g_need (by have q := names_26 (by assumption) h3; omega) ?_
           refine g_need (by have q := names_26 (by assumption) h3; omega) ?_
           refine g_call (lcaught_fun l (l.1.1.getD (Int.toNat o.2.2.1) tFn.dflt) (by omega)) (fun h => nomatch h) ?_
           exact g_retb (by rw [orderE_eq]; first | (simp only [namesE, h0, h1, h2, h3, h4, h5, h6, h7, h8, if_true, if_false, Int.reduceEq, decide_true, decide_false, Bool.not_true, Bool.not_false, Bool.false_and, Bool.true_and, Bool.and_true, reduceIte]; done) | (simp only [namesE, h0, h1, h2, h3, h4, decide_false, Bool.not_false, Bool.true_and]; simp only [orderT, h0, h1, h2, h3, h4, h5, h6, h7, h8, if_true, if_false, Int.reduceEq, reduceIte]; done))
          ·refine g_iteD (fun h9 => ?_) (fun h9 => ?_)
           ·exact g_retb (by rw [orderE_eq]; first | (simp only [namesE, h0, h1, h2, h3, h4, h5, h6, h7, h8, h9, if_true, if_false, Int.reduceEq, decide_true, decide_false, Bool.not_true, Bool.not_false, Bool.false_and, Bool.true_and, Bool.and_true, reduceIte]; done) | (simp only [namesE, h0, h1, h2, h3, h4, decide_false, Bool.not_false, Bool.true_and]; simp only [orderT, h0, h1, h2, h3, h4, h5, h6, h7, h8, h9, if_true, if_false, Int.reduceEq, reduceIte]; done))
           ·exact g_retl (by rw [orderE_eq]; first | (simp only [namesE, h0, h1, h2, h3, h4, h5, h6, h7, h8, h9, if_true, if_false, Int.reduceEq, decide_true, decide_false, Bool.not_true, Bool.not_false, Bool.false_and, Bool.true_and, Bool.and_true, reduceIte]; done) | (simp only [namesE, h0, h1, h2, h3, h4, decide_false, Bool.not_false, Bool.true_and]; simp only [orderT, h0, h1, h2, h3, h4, h5, h6, h7, h8, h9, if_true, if_false, Int.reduceEq, reduceIte]; done))

def ordsE (l : ELook) : Nat → List EOrd → Bool
 | _, [] => true
 | i, o :: r => if orderE l (i : Int) o = true then ordsE l (i + 1) r else false
theorem ordsE_iff {l : ELook} : ∀ {os : List EOrd} {i : Nat}, ordsE l i os = true ↔ ∀ (j : Nat) (o : EOrd), os[j]? = some o → orderE l ((i + j : Nat) : Int) o = true
 | [], i => by simp [ordsE]
 | o :: r, i => by
  rw [ordsE]
  constructor
  ·intro h j x hx
   split at h
   ·rename_i h0
    cases j with
    | zero => simp only [List.getElem?_cons_zero, Option.some.injEq] at hx; rw [← hx]; exact h0
    | succ j => rw [List.getElem?_cons_succ] at hx; have := ordsE_iff.1 h j x hx; rw [show i + (j + 1) = i + 1 + j by omega]; exact this
   ·exact absurd h Bool.false_ne_true
  ·intro h
   rw [if_pos (show orderE l (i : Int) o = true from h 0 o rfl)]
   exact ordsE_iff.2 fun j x hx => by have := h (j + 1) x (by rw [List.getElem?_cons_succ]; exact hx); rw [show i + (j + 1) = i + 1 + j by omega] at this; exact this
theorem ordsE_eq (p : EProg) (f : EFn) : ordsE (p, f) 0 f.2.2.2.2 = ordersF (toProg p) (toFn f) := by
 have hl : lkE (p, f) = lkOf (toProg p) (toFn f) := by simp [lkE, lkOf, toProg, toFn]
 rw [Bool.eq_iff_iff, ordsE_iff, orders_at]
 constructor
 ·intro h i o ho
  have ho : (f.2.2.2.2.map toOrd)[i]? = some o := ho
  rw [List.getElem?_map] at ho
  obtain ⟨x, hx, rfl⟩ := Option.map_eq_some_iff.1 ho
  have := h i x hx
  rw [Nat.zero_add] at this
  unfold orderE at this
  rw [hl] at this
  exact this
 ·intro h i o ho
  have := h i (toOrd o) (by show (f.2.2.2.2.map toOrd)[i]? = _; rw [List.getElem?_map, ho]; rfl)
  rw [Nat.zero_add]
  unfold orderE
  rw [hl]
  exact this
def endFn (f : EFn) : Bool := !(triesF (toFn f).code).bad
def headE (f : EFn) : Bool := if f.1 < 0 then false else if f.2.1 < 1 then false else if f.2.1 < f.1 then false else true
def fnE (p : EProg) (f : EFn) : Bool := if headE f = true then (if ordsE (p, f) 0 f.2.2.2.2 = true then endFn f else false) else false
theorem fnE_eq (p : EProg) (f : EFn) : fnE p f = functionF (toProg p) (toFn f) := by
 unfold fnE functionF
 rw [ordsE_eq]
 have : headE f = headF (toFn f) := by
  unfold headE headF toFn
  simp only
  by_cases h1 : f.1 < 0
  ·rw [if_pos h1, decide_eq_false (by omega : ¬ 0 ≤ f.1)]; rfl
  ·rw [if_neg h1, decide_eq_true (by omega : 0 ≤ f.1)]
   by_cases h2 : f.2.1 < 1
   ·rw [if_pos h2, decide_eq_false (by omega : ¬ 1 ≤ f.2.1)]; rfl
   ·rw [if_neg h2, decide_eq_true (by omega : 1 ≤ f.2.1)]
    by_cases h3 : f.2.1 < f.1
    ·rw [if_pos h3, decide_eq_false (by omega : ¬ f.1 ≤ f.2.1)]; rfl
    ·rw [if_neg h3, decide_eq_true (by omega : f.1 ≤ f.2.1)]; rfl
 rw [this]
 unfold endFn
 cases headF (toFn f) <;> cases ordersF (toProg p) (toFn f) <;> rfl
noncomputable def oc50 : Orc where
 pure := fun f args => match f, args with
  | 149, [a0, a1, a2] => match dA tLook a0, dA tI a1, dA tOrd a2 with
   | some x0, some x1, some x2 => some (.c (.bool (orderE x0 x1 x2)))
   | _, _, _ => none
  | 116, [a0] => match dA tFn a0 with
   | some x0 => some (.tup [.c (.ro (.slice tVal) (triesT x0)), .c (.ro .bool (triesF (toFn x0).code).seen), .c (.bool ((!(triesF (toFn x0).code).bad)))])
   | _ => none
  | _, _ => none
 heap := fun _ _ _ => none
def func_lv : LV := ⟨(F2 (false :: true :: false :: true :: F16 (F8 (true :: true :: true :: F16 (false :: []))))), []⟩
abbrev gCq0 (p : EProg) (f : EFn) : List AB := [.cells 26 (Ty.enc tProg p), .cells 104 (Ty.enc tFn f), .cells 233 (Ty.enc tLook (p, f))]
noncomputable def func_T (p : EProg) (f : EFn) : Tree :=
 .ite (decide (f.1 < 0))
 (.ret (.c (.lit false)) (gCq0 p f))
 (.ite (decide (f.2.1 < 1))
  (.ret (.c (.lit false)) (gCq0 p f))
  (.ite (decide (f.2.1 < f.1))
  (.ret (.c (.lit false)) (gCq0 p f))
  (.stop (lp (bodyOf Tryz.f99) 0) (J2 (.junk :: .c (.ptr 1 0 0 0) :: .junk :: .c (.ptr 2 0 0 0) :: J16 (J8 (.c (.ro tOrd f.2.2.2.2) :: .c (.int .i64 (f.2.2.2.2.length : Int)) :: .c (.int .i64 0) :: J16 (.junk :: []))))) (gCq0 p f))))
noncomputable def func_l0_R (p : EProg) (f : EFn) (i : Nat) : Tree :=
 .ite (decide (((i : Nat) : Int) < (f.2.2.2.2.length : Int)))
 (.need ((0 : Int) ≤ ((i : Nat) : Int) ∧ (((i : Nat) : Int) : Int) < (f.2.2.2.2.length : Int)) <|
  .need (i < f.2.2.2.2.length) <|
  .call 149 [.agg (Ty.enc tLook (p, f)), .c (.int .i64 ((i : Nat) : Int)), .agg (Ty.enc tOrd (f.2.2.2.2.getD i tOrd.dflt))] false (.c (.bool (orderE (p, f) ((i : Nat) : Int) (f.2.2.2.2.getD i tOrd.dflt)))) <|
  .ite ((!(orderE (p, f) ((i : Nat) : Int) (f.2.2.2.2.getD i tOrd.dflt))))
  (.ret (.c (.lit false)) [.cells 104 (Ty.enc tFn f), .cells 233 (Ty.enc tLook (p, f)), .cells 235 (Ty.enc tOrd (f.2.2.2.2.getD i tOrd.dflt))])
  (.need (inR .i64 (((i : Nat) : Int) + 1)) <|
  .stop (lp (bodyOf Tryz.f99) 0) (J2 (.junk :: .c (.ptr 0 0 0 0) :: .junk :: .c (.ptr 1 0 0 0) :: J16 (J8 (.c (.ro tOrd f.2.2.2.2) :: .c (.int .i64 (f.2.2.2.2.length : Int)) :: .c (.int .i64 (((i : Nat) : Int) + 1)) :: J16 (.junk :: []))))) [.cells 104 (Ty.enc tFn f), .cells 233 (Ty.enc tLook (p, f)), .cells 235 (Ty.enc tOrd (f.2.2.2.2.getD i tOrd.dflt))]))
 (.call 116 [.agg (Ty.enc tFn f)] false (.tup [.c (.ro (.slice tVal) (triesT f)), .c (.ro .bool (triesF (toFn f).code).seen), .c (.bool (!(triesF (toFn f).code).bad))]) <|
  .ret (.c (.bool (!(triesF (toFn f).code).bad))) [.cells 104 (Ty.enc tFn f), .cells 233 (Ty.enc tLook (p, f))])
theorem func_l0 (p : EProg) (f : EFn) (i : Nat) (hq : 0 ≤ f.2.1 ∧ f.2.1 ≤ 60) (hn : f.2.2.2.2.length ≤ 600) (hj : ordsE (p, f) i (f.2.2.2.2.drop i) = true → jumpsOk (toFn f).code) : Run Tryz.prog 99 (retQ Tryz.prog (.c (.bool (if ordsE (p, f) i (f.2.2.2.2.drop i) = true then endFn f else false)))) (lp (bodyOf Tryz.f99) 0) (J2 (.junk :: .c (.ptr 0 0 0 0) :: .junk :: .c (.ptr 1 0 0 0) :: J16 (J8 (.c (.ro tOrd f.2.2.2.2) :: .c (.int .i64 (f.2.2.2.2.length : Int)) :: .c (.int .i64 ((i : Nat) : Int)) :: J16 (.junk :: []))))) [.cells 104 (Ty.enc tFn f), .cells 233 (Ty.enc tLook (p, f))] :=
 Run.roundA oc50 func_lv 3000 Tryz.func99 mixed (func_l0_R p f i) (by kernel_rfl) (by
  unfold func_l0_R
  refine g_iteD (fun h0 => ?_) (fun h0 => ?_)
  ·refine g_need (by omega) ?_
   refine g_need (by omega) ?_
   refine g_call (lorder_fun (p, f) ((i : Nat) : Int) (f.2.2.2.2.getD i tOrd.dflt) (by exact hq)) (fun h => nomatch h) ?_
   refine g_iteN (fun h1 => ?_) (fun h1 => ?_)
   ·exact g_retl (by rw [dropCons (α := EOrd) (Ty.dflt tOrd) (by omega : i < f.2.2.2.2.length), ordsE]; simp only [h0, h1, if_false, Bool.false_eq_true])
   ·refine g_need (by rw [i64_iff]; constructor <;> omega) ?_
    refine g_stop (RunN.keep [0, 1] (F2 (false :: true :: false :: true :: F16 (F8 (true :: true :: true :: F16 (false :: []))))) n0 (by decide) rfl rfl ?_)
    have ht := func_l0 p f (i + 1) hq hn (fun h => hj (by rw [dropCons (α := EOrd) (Ty.dflt tOrd) (by omega : i < f.2.2.2.2.length), ordsE]; rw [if_pos h1]; exact h)); rw [dropCons (α := EOrd) (Ty.dflt tOrd) (by omega : i < f.2.2.2.2.length), ordsE]; rw [if_pos h1]; exact ht
  ·refine g_call (tries_fun f (hj (by rw [List.drop_eq_nil_of_le (by omega)]; rfl)) hn) (fun h => nomatch h) ?_
   exact g_retb (by rw [List.drop_eq_nil_of_le (by omega)]; rfl)
  )
 termination_by f.2.2.2.2.length - i
 decreasing_by all_goals omega
theorem function_fun (p : EProg) (f : EFn) (hn : f.2.2.2.2.length ≤ 600) (h60 : f.2.1 ≤ 60) : AFun Tryz.prog 99 [.agg (tProg.enc p), .agg (tFn.enc f)] (.c (.bool (functionF (toProg p) (toFn f)))) :=
 AFun.of oc50 func_lv 3000 Tryz.func99 mixed rfl (by decide) (Nat.le_of_ble_eq_true rfl) (func_T p f) (by kernel_rfl) fun hF => by
  unfold func_T
  repeat' first
  | with_reducible refine g_iteD (fun h => ?_) (fun h => ?_)
  | (exact g_retl (by rw [← fnE_eq]; first | (simp only [fnE, headE, *, if_true, if_false, Bool.false_eq_true]; done) | (simp_all [fnE, headE]; done)))
  | (refine g_stop (RunN.keep [1, 2] (F2 (false :: true :: false :: true :: F16 (F8 (true :: true :: true :: F16 (false :: []))))) n0 (by decide) rfl rfl ?_); have ht := func_l0 p f 0 (by omega) hn (fun h => by rw [List.drop_zero, ordsE_eq] at h; exact orders_jumps h); rw [List.drop_zero] at ht; rw [← fnE_eq]; have e : headE f = true := (by simp only [headE, *, if_true, if_false]); rw [fnE, if_pos e]; exact ht)

end Go.Proofs.YtkonkblfckhcbaaGreatDoor
namespace Go.Proofs.YtkonkblfckhcbaaGreatDoor
set_option linter.unusedVariables false
set_option linter.unusedSimpArgs false
set_option maxRecDepth 100000
def wordsC : ByteArray := ⟨#[107, 105, 110, 100, 32, 114, 97, 110, 103, 101, 32, 122, 101, 114, 111, 32, 105, 110, 100, 101, 120, 32, 108, 97, 114, 103, 101, 32, 100, 101, 101, 112, 32, 115, 116, 97, 116, 101, 32, 99, 111, 117, 110, 116, 32, 110, 105, 108, 32, 98, 111, 111, 108, 32, 105, 110, 116, 32, 102, 108, 111, 97, 116, 32, 116, 101, 120, 116, 32, 111, 98, 106, 101, 99, 116, 32, 108, 105, 115, 116, 32, 102, 117, 110, 99, 116, 105, 111, 110, 32, 103, 101, 110, 101, 114, 97, 116, 111, 114, 32, 108, 111, 99, 107, 32, 119, 101, 97, 107]⟩
def spA (s : ByteArray) (i : Nat) : Int := globL1.getD (Int.toNat (UInt8.toNat (s[i]!) : Int)) (Ty.dflt (.int .u8))
def nxN (s : ByteArray) (n was : Int) (i : Nat) : Int := n + bitsF .and .i64 was (bitsF .xor .i64 (if IntKind.signed .i64 then -1 else IntKind.max .i64) (spA s i))
def m0 (s : ByteArray) : Nat → Int → Int → Int → Nat → Option Int
 | 0, _, _, _, _ => none
 | f + 1, n, was, bits, i => if i < s.size then (if inR .i64 (nxN s n was i) then m0 s f (nxN s n was i) (spA s i) (bitsF .or .u8 bits (UInt8.toNat (s[i]!) : Int)) (i + 1) else none) else if 128 ≤ bits then none else if 0 ≤ n ∧ n ≤ 1000 then some n else none
def wF (s : ByteArray) (n : Nat) : Nat → Bool → Nat → Nat → Nat → List ByteArray → Option (List ByteArray)
 | 0, _, _, _, _, _ => none
 | f + 1, true, na, fs, i, a => if i < s.size then (if spA s i = 0 then wF s n f true na fs (i + 1) a else if fs ≤ i ∧ na < n then wF s n f false (na + 1) 0 (i + 1) (a.set na (s.extract fs i)) else none) else if fs < s.size then (if na < n then some (a.set na (s.extract fs s.size)) else none) else some a
 | f + 1, false, na, _, i, a => if i < s.size then (if spA s i = 0 then wF s n f true na i i a else wF s n f false na 0 (i + 1) a) else wF s n f true na i i a
def w1F (s : ByteArray) (n : Nat) : Nat → Nat → List ByteArray → Option (List ByteArray)
 | 0, _, _ => none
 | f + 1, i, a => if i < s.size then (if spA s i = 0 then wF s n f true 0 i i a else w1F s n f (i + 1) a) else wF s n f true 0 i i a
theorem lenL1 : globL1.length = 256 := by kernel_rfl
def fields_lv : LV := ⟨(true :: F2 (true :: true :: true :: true :: F2 (true :: true :: true :: true :: F32 (F32 (F16 (F8 (F4 (false :: [])))))))), [13, 14]⟩
noncomputable def fields_T (s : ByteArray) : Tree :=
 .stop (lp (bodyOf Tryz.f194) 0) (.c (.str s) :: J2 (.c (.int .i64 0) :: .c (.int .i64 1) :: .c (.int .u8 0) :: .c (.int .i64 0) :: J32 (J32 (J32 (J2 (.junk :: [])))))) []
noncomputable def fields_l0_R (s : ByteArray) (n : Int) (was : Int) (bits : Int) (i : Nat) : Tree :=
 .ite (decide (((i : Nat) : Int) < (s.size : Int)))
 (.need ((0 : Int) ≤ ((i : Nat) : Int) ∧ (((i : Nat) : Int) : Int) < (s.size : Int)) <|
  .need ((0 : Int) ≤ (UInt8.toNat (s[i]!) : Int) ∧ ((UInt8.toNat (s[i]!) : Int) : Int) < ((256 : Nat) : Int) ∧ 256 ≤ globL1.length) <|
  .need ((Int.toNat (UInt8.toNat (s[i]!) : Int)) < globL1.length) <|
  .need (inR .i64 (n + (bitsF .and .i64 was (bitsF .xor .i64 (if IntKind.signed .i64 then -1 else IntKind.max .i64) (globL1.getD (Int.toNat (UInt8.toNat (s[i]!) : Int)) ((.int .u8) : Ty).dflt))))) <|
  .need (inR .i64 (((i : Nat) : Int) + 1)) <|
  .stop (lp (bodyOf Tryz.f194) 0) (.c (.str s) :: J2 (.c (.int .i64 (n + (bitsF .and .i64 was (bitsF .xor .i64 (if IntKind.signed .i64 then -1 else IntKind.max .i64) (globL1.getD (Int.toNat (UInt8.toNat (s[i]!) : Int)) ((.int .u8) : Ty).dflt))))) :: .c (.int .i64 (globL1.getD (Int.toNat (UInt8.toNat (s[i]!) : Int)) ((.int .u8) : Ty).dflt)) :: .c (.int .u8 (bitsF .or .u8 bits (UInt8.toNat (s[i]!) : Int))) :: .c (.int .i64 (((i : Nat) : Int) + 1)) :: J32 (J32 (J32 (J2 (.junk :: [])))))) [])
 (.ite (decide ((128 : Int) ≤ bits))
  (.stop (rg (bodyOf Tryz.f194) 13) (.c (.str s) :: J2 (.c (.int .i64 n) :: .c (.int .i64 was) :: .c (.int .u8 bits) :: .c (.int .i64 ((i : Nat) : Int)) :: J32 (J32 (J32 (J2 (.junk :: [])))))) [])
  (.stop (rg (bodyOf Tryz.f194) 14) (.c (.str s) :: J2 (.c (.int .i64 n) :: .c (.int .i64 was) :: .c (.int .u8 bits) :: .c (.int .i64 ((i : Nat) : Int)) :: J32 (J32 (J32 (J2 (.junk :: [])))))) []))
noncomputable def fields_r14_R (s : ByteArray) (N : Int) : Tree :=
 .need ((0 : Int) ≤ N ∧ (N : Int) ≤ N ∧ (N : Int) ≤ 140737488355328 ∧ (16 : Int) * N ≤ 140737488355328) <|
 .stop (lp (bodyOf Tryz.f194) 1) (.c (.str s) :: J2 (.c (.int .i64 N) :: J4 (.junk :: .c (.sl 0 1 0 (Int.toNat N)) :: .c (.int .i64 0) :: .c (.int .i64 0) :: .c (.int .i64 0) :: J32 (J32 (J16 (J8 (J4 (.junk :: [])))))))) [.vec 9 .str (List.replicate (Int.toNat N) ByteArray.empty)]
noncomputable def fields_l1_R (s : ByteArray) (n : Nat) (a : List ByteArray) (i : Nat) : Tree :=
 .ite (decide (((i : Nat) : Int) < (s.size : Int)))
 (.need ((0 : Int) ≤ ((i : Nat) : Int) ∧ (((i : Nat) : Int) : Int) < (s.size : Int)) <|
  .need ((0 : Int) ≤ (UInt8.toNat (s[i]!) : Int) ∧ ((UInt8.toNat (s[i]!) : Int) : Int) < ((256 : Nat) : Int) ∧ 256 ≤ globL1.length) <|
  .need ((Int.toNat (UInt8.toNat (s[i]!) : Int)) < globL1.length) <|
  .ite ((!(decide ((globL1.getD (Int.toNat (UInt8.toNat (s[i]!) : Int)) ((.int .u8) : Ty).dflt) = 0))))
  (.need (inR .i64 (((i : Nat) : Int) + 1)) <|
  .stop (lp (bodyOf Tryz.f194) 1) (.c (.str s) :: J8 (.c (.sl 0 1 0 n) :: .c (.int .i64 0) :: .junk :: .c (.int .i64 (((i : Nat) : Int) + 1)) :: J32 (J32 (J16 (J8 (J4 (.junk :: []))))))) [.vec 9 .str a])
  (.stop (lp (bodyOf Tryz.f194) 2) (.c (.str s) :: J8 (.c (.sl 0 1 0 n) :: .c (.int .i64 0) :: .c (.int .i64 ((i : Nat) : Int)) :: .c (.int .i64 ((i : Nat) : Int)) :: J32 (J32 (J16 (J8 (J4 (.junk :: []))))))) [.vec 9 .str a]))
 (.stop (lp (bodyOf Tryz.f194) 2) (.c (.str s) :: J8 (.c (.sl 0 1 0 n) :: .c (.int .i64 0) :: .c (.int .i64 ((i : Nat) : Int)) :: .c (.int .i64 ((i : Nat) : Int)) :: J32 (J32 (J16 (J8 (J4 (.junk :: []))))))) [.vec 9 .str a])
noncomputable def fields_l2_R (s : ByteArray) (n : Nat) (a : List ByteArray) (na : Nat) (fs : Nat) (i : Nat) : Tree :=
 .ite (decide (((i : Nat) : Int) < (s.size : Int)))
 (.need ((0 : Int) ≤ ((i : Nat) : Int) ∧ (((i : Nat) : Int) : Int) < (s.size : Int)) <|
  .need ((0 : Int) ≤ (UInt8.toNat (s[i]!) : Int) ∧ ((UInt8.toNat (s[i]!) : Int) : Int) < ((256 : Nat) : Int) ∧ 256 ≤ globL1.length) <|
  .need ((Int.toNat (UInt8.toNat (s[i]!) : Int)) < globL1.length) <|
  .ite (decide ((globL1.getD (Int.toNat (UInt8.toNat (s[i]!) : Int)) ((.int .u8) : Ty).dflt) = 0))
  (.need (inR .i64 (((i : Nat) : Int) + 1)) <|
  .stop (lp (bodyOf Tryz.f194) 2) (.c (.str s) :: J8 (.c (.sl 0 1 0 n) :: .c (.int .i64 ((na : Nat) : Int)) :: .c (.int .i64 ((fs : Nat) : Int)) :: .c (.int .i64 (((i : Nat) : Int) + 1)) :: J32 (J32 (J16 (J8 (J4 (.junk :: []))))))) [.vec 9 .str a])
  (.need ((0 : Int) ≤ ((fs : Nat) : Int) ∧ (((fs : Nat) : Int) : Int) ≤ ((i : Nat) : Int) ∧ (((i : Nat) : Int) : Int) ≤ (s.size : Int)) <|
  .need ((0 : Int) ≤ ((na : Nat) : Int) ∧ (((na : Nat) : Int) : Int) < ((n : Nat) : Int)) <|
  .need ((0 + na) < a.length) <|
  .need (inR .i64 (((na : Nat) : Int) + 1)) <|
  .need (inR .i64 (((i : Nat) : Int) + 1)) <|
  .stop (lp (bodyOf Tryz.f194) 3) (.c (.str s) :: J8 (.c (.sl 0 1 0 n) :: .c (.int .i64 (((na : Nat) : Int) + 1)) :: .c (.int .i64 ((fs : Nat) : Int)) :: .c (.int .i64 (((i : Nat) : Int) + 1)) :: J32 (J32 (J16 (J8 (J4 (.junk :: []))))))) [.vec 9 .str (a.set (0 + na) (s.extract fs i))]))
 (.ite (decide (((fs : Nat) : Int) < (s.size : Int)))
  (.need ((0 : Int) ≤ ((fs : Nat) : Int) ∧ (((fs : Nat) : Int) : Int) ≤ (s.size : Int)) <|
  .need ((0 : Int) ≤ ((na : Nat) : Int) ∧ (((na : Nat) : Int) : Int) < ((n : Nat) : Int)) <|
  .need ((0 + na) < a.length) <|
  .ret (.c (.sl 0 1 0 n)) [.vec 9 .str (a.set (0 + na) (s.extract fs s.size))])
  (.ret (.c (.sl 0 1 0 n)) [.vec 9 .str a]))
noncomputable def fields_l3_R (s : ByteArray) (n : Nat) (a : List ByteArray) (na : Nat) (i : Nat) : Tree :=
 .ite (decide (((i : Nat) : Int) < (s.size : Int)))
 (.need ((0 : Int) ≤ ((i : Nat) : Int) ∧ (((i : Nat) : Int) : Int) < (s.size : Int)) <|
  .need ((0 : Int) ≤ (UInt8.toNat (s[i]!) : Int) ∧ ((UInt8.toNat (s[i]!) : Int) : Int) < ((256 : Nat) : Int) ∧ 256 ≤ globL1.length) <|
  .need ((Int.toNat (UInt8.toNat (s[i]!) : Int)) < globL1.length) <|
  .ite ((!(decide ((globL1.getD (Int.toNat (UInt8.toNat (s[i]!) : Int)) ((.int .u8) : Ty).dflt) = 0))))
  (.need (inR .i64 (((i : Nat) : Int) + 1)) <|
  .stop (lp (bodyOf Tryz.f194) 3) (.c (.str s) :: J8 (.c (.sl 0 1 0 n) :: .c (.int .i64 ((na : Nat) : Int)) :: .junk :: .c (.int .i64 (((i : Nat) : Int) + 1)) :: J32 (J32 (J16 (J8 (J4 (.junk :: []))))))) [.vec 9 .str a])
  (.stop (lp (bodyOf Tryz.f194) 2) (.c (.str s) :: J8 (.c (.sl 0 1 0 n) :: .c (.int .i64 ((na : Nat) : Int)) :: .c (.int .i64 ((i : Nat) : Int)) :: .c (.int .i64 ((i : Nat) : Int)) :: J32 (J32 (J16 (J8 (J4 (.junk :: []))))))) [.vec 9 .str a]))
 (.stop (lp (bodyOf Tryz.f194) 2) (.c (.str s) :: J8 (.c (.sl 0 1 0 n) :: .c (.int .i64 ((na : Nat) : Int)) :: .c (.int .i64 ((i : Nat) : Int)) :: .c (.int .i64 ((i : Nat) : Int)) :: J32 (J32 (J16 (J8 (J4 (.junk :: []))))))) [.vec 9 .str a])
theorem fields_w (s : ByteArray) (W : List ByteArray) (hs : s.size ≤ 1000) : ∀ f : Nat, (∀ (n : Nat) (a : List ByteArray) (na fs i : Nat), a.length = n → n ≤ 1000 → wF s n f true na fs i a = some W → Run Tryz.prog 194 (retQ Tryz.prog (.c (.ro .str W))) (lp (bodyOf Tryz.f194) 2) (.c (.str s) :: J8 (.c (.sl 0 1 0 n) :: .c (.int .i64 ((na : Nat) : Int)) :: .c (.int .i64 ((fs : Nat) : Int)) :: .c (.int .i64 ((i : Nat) : Int)) :: J32 (J32 (J16 (J8 (J4 (.junk :: []))))))) [.vec 9 .str a]) ∧ (∀ (n : Nat) (a : List ByteArray) (na fs i : Nat), a.length = n → n ≤ 1000 → wF s n f false na fs i a = some W → Run Tryz.prog 194 (retQ Tryz.prog (.c (.ro .str W))) (lp (bodyOf Tryz.f194) 3) (.c (.str s) :: J8 (.c (.sl 0 1 0 n) :: .c (.int .i64 ((na : Nat) : Int)) :: .junk :: .c (.int .i64 ((i : Nat) : Int)) :: J32 (J32 (J16 (J8 (J4 (.junk :: []))))))) [.vec 9 .str a]) := by
 intro f
 induction f with
 | zero => exact ⟨fun n a na fs i _ _ h => absurd h (by simp [wF]), fun n a na fs i _ _ h => absurd h (by simp [wF])⟩
 | succ f ih =>
  refine ⟨fun n a na fs i ha hn hm => ?_, fun n a na fs i ha hn hm => ?_⟩
  ·unfold wF at hm
   refine Run.roundA oc0 fields_lv 3000 Tryz.func194 mixed (fields_l2_R s n a na fs i) (by kernel_rfl) ?_
   unfold fields_l2_R
   refine g_iteD (fun h0 => ?_) (fun h0 => ?_)
   ·refine g_need (by omega) ?_
    refine g_need (by have hb := (s[i]!).toNat_lt; have hL := lenL1; first | omega | (constructor <;> omega) | (refine ⟨?_, ?_, ?_⟩ <;> omega) | (rw [i64_iff]; constructor <;> omega)) ?_
    refine g_need (by have hb := (s[i]!).toNat_lt; have hL := lenL1; first | omega | (constructor <;> omega) | (refine ⟨?_, ?_, ?_⟩ <;> omega) | (rw [i64_iff]; constructor <;> omega)) ?_
    refine g_iteD (fun h1 => ?_) (fun h1 => ?_)
    ·refine g_need (by have hb := (s[i]!).toNat_lt; have hL := lenL1; first | omega | (constructor <;> omega) | (refine ⟨?_, ?_, ?_⟩ <;> omega) | (rw [i64_iff]; constructor <;> omega)) ?_
     refine g_stop (RunN.keep [0] (true :: F8 (true :: true :: true :: true :: F32 (F32 (F16 (F8 (F4 (false :: []))))))) n0 (by decide) rfl rfl ?_)
     rw [if_pos (by omega), if_pos (show spA s i = 0 from h1)] at hm; exact ih.1 n a na fs (i + 1) ha hn hm
    ·refine g_need (by have q : fs ≤ i ∧ na < n := (by rcases Decidable.em (fs ≤ i ∧ na < n) with q | q; exact q; rw [if_pos (by omega), if_neg (show ¬ spA s i = 0 from h1), if_neg q] at hm; cases hm); first | omega | (constructor <;> omega) | (refine ⟨?_, ?_, ?_⟩ <;> omega) | (rw [i64_iff]; constructor <;> omega)) ?_
     refine g_need (by have q : fs ≤ i ∧ na < n := (by rcases Decidable.em (fs ≤ i ∧ na < n) with q | q; exact q; rw [if_pos (by omega), if_neg (show ¬ spA s i = 0 from h1), if_neg q] at hm; cases hm); first | omega | (constructor <;> omega) | (refine ⟨?_, ?_, ?_⟩ <;> omega) | (rw [i64_iff]; constructor <;> omega)) ?_
     refine g_need (by have q : fs ≤ i ∧ na < n := (by rcases Decidable.em (fs ≤ i ∧ na < n) with q | q; exact q; rw [if_pos (by omega), if_neg (show ¬ spA s i = 0 from h1), if_neg q] at hm; cases hm); first | omega | (constructor <;> omega) | (refine ⟨?_, ?_, ?_⟩ <;> omega) | (rw [i64_iff]; constructor <;> omega)) ?_
     refine g_need (by have q : fs ≤ i ∧ na < n := (by rcases Decidable.em (fs ≤ i ∧ na < n) with q | q; exact q; rw [if_pos (by omega), if_neg (show ¬ spA s i = 0 from h1), if_neg q] at hm; cases hm); first | omega | (constructor <;> omega) | (refine ⟨?_, ?_, ?_⟩ <;> omega) | (rw [i64_iff]; constructor <;> omega)) ?_
     refine g_need (by have hb := (s[i]!).toNat_lt; have hL := lenL1; first | omega | (constructor <;> omega) | (refine ⟨?_, ?_, ?_⟩ <;> omega) | (rw [i64_iff]; constructor <;> omega)) ?_
     refine g_stop (RunN.keep [0] (true :: F8 (true :: true :: false :: true :: F32 (F32 (F16 (F8 (F4 (false :: []))))))) n0 (by decide) rfl rfl ?_)
     have q : fs ≤ i ∧ na < n := (by rcases Decidable.em (fs ≤ i ∧ na < n) with q | q; exact q; rw [if_pos (by omega), if_neg (show ¬ spA s i = 0 from h1), if_neg q] at hm; cases hm); rw [if_pos (by omega), if_neg (show ¬ spA s i = 0 from h1), if_pos q] at hm; rw [Nat.zero_add]; exact ih.2 n (a.set na (s.extract fs i)) (na + 1) 0 (i + 1) (by simpa using ha) hn hm
   ·refine g_iteD (fun h1 => ?_) (fun h1 => ?_)
    ·refine g_need (by omega) ?_
     refine g_need (by have q : na < n := (by rcases Decidable.em (na < n) with q | q; exact q; rw [if_neg (by omega), if_pos (by omega), if_neg q] at hm; cases hm); first | omega | (constructor <;> omega) | (refine ⟨?_, ?_, ?_⟩ <;> omega) | (rw [i64_iff]; constructor <;> omega)) ?_
     refine g_need (by have q : na < n := (by rcases Decidable.em (na < n) with q | q; exact q; rw [if_neg (by omega), if_pos (by omega), if_neg q] at hm; cases hm); first | omega | (constructor <;> omega) | (refine ⟨?_, ?_, ?_⟩ <;> omega) | (rw [i64_iff]; constructor <;> omega)) ?_
     exact g_rs rfl (by (simp [ha])) (by (try rw [Nat.zero_add]); first | (have q : na < n := (by rcases Decidable.em (na < n) with q | q; exact q; rw [if_neg (by omega), if_pos (by omega), if_neg q] at hm; cases hm); rw [if_neg (by omega), if_pos (by omega), if_pos q] at hm; injection hm) | (rw [if_neg (by omega), if_neg (by omega)] at hm; injection hm))
    ·exact g_rs rfl (by omega) (by (try rw [Nat.zero_add]); first | (have q : na < n := (by rcases Decidable.em (na < n) with q | q; exact q; rw [if_neg (by omega), if_pos (by omega), if_neg q] at hm; cases hm); rw [if_neg (by omega), if_pos (by omega), if_pos q] at hm; injection hm) | (rw [if_neg (by omega), if_neg (by omega)] at hm; injection hm))
  ·unfold wF at hm
   refine Run.roundA oc0 fields_lv 3000 Tryz.func194 mixed (fields_l3_R s n a na i) (by kernel_rfl) ?_
   unfold fields_l3_R
   refine g_iteD (fun h0 => ?_) (fun h0 => ?_)
   ·refine g_need (by omega) ?_
    refine g_need (by have hb := (s[i]!).toNat_lt; have hL := lenL1; first | omega | (constructor <;> omega) | (refine ⟨?_, ?_, ?_⟩ <;> omega) | (rw [i64_iff]; constructor <;> omega)) ?_
    refine g_need (by have hb := (s[i]!).toNat_lt; have hL := lenL1; first | omega | (constructor <;> omega) | (refine ⟨?_, ?_, ?_⟩ <;> omega) | (rw [i64_iff]; constructor <;> omega)) ?_
    refine g_iteND (fun h1 => ?_) (fun h1 => ?_)
    ·refine g_need (by have hb := (s[i]!).toNat_lt; have hL := lenL1; first | omega | (constructor <;> omega) | (refine ⟨?_, ?_, ?_⟩ <;> omega) | (rw [i64_iff]; constructor <;> omega)) ?_
     refine g_stop (RunN.keep [0] (true :: F8 (true :: true :: false :: true :: F32 (F32 (F16 (F8 (F4 (false :: []))))))) n0 (by decide) rfl rfl ?_)
     rw [if_pos (by omega), if_neg (show ¬ spA s i = 0 from h1)] at hm; exact ih.2 n a na 0 (i + 1) ha hn hm
    ·refine g_stop (RunN.keep [0] (true :: F8 (true :: true :: true :: true :: F32 (F32 (F16 (F8 (F4 (false :: []))))))) n0 (by decide) rfl rfl ?_)
     first | (rw [if_neg (by omega)] at hm; exact ih.1 n a na i i ha hn hm) | (rw [if_pos (by omega), if_pos (show spA s i = 0 from h1)] at hm; exact ih.1 n a na i i ha hn hm)
   ·refine g_stop (RunN.keep [0] (true :: F8 (true :: true :: true :: true :: F32 (F32 (F16 (F8 (F4 (false :: []))))))) n0 (by decide) rfl rfl ?_)
    first | (rw [if_neg (by omega)] at hm; exact ih.1 n a na i i ha hn hm) | (rw [if_pos (by omega), if_pos (show spA s i = 0 from h1)] at hm; exact ih.1 n a na i i ha hn hm)
theorem fields_w1 (s : ByteArray) (W : List ByteArray) (hs : s.size ≤ 1000) : ∀ (f : Nat) (n : Nat) (a : List ByteArray) (i : Nat), a.length = n → n ≤ 1000 → w1F s n f i a = some W → Run Tryz.prog 194 (retQ Tryz.prog (.c (.ro .str W))) (lp (bodyOf Tryz.f194) 1) (.c (.str s) :: J8 (.c (.sl 0 1 0 n) :: .c (.int .i64 0) :: .junk :: .c (.int .i64 ((i : Nat) : Int)) :: J32 (J32 (J16 (J8 (J4 (.junk :: []))))))) [.vec 9 .str a] := by
 intro f
 induction f with
 | zero => exact fun n a i _ _ h => absurd h (by simp [w1F])
 | succ f ih =>
  intro n a i ha hn hm
  unfold w1F at hm
  refine Run.roundA oc0 fields_lv 3000 Tryz.func194 mixed (fields_l1_R s n a i) (by kernel_rfl) ?_
  unfold fields_l1_R
  refine g_iteD (fun h0 => ?_) (fun h0 => ?_)
  ·refine g_need (by omega) ?_
   refine g_need (by have hb := (s[i]!).toNat_lt; have hL := lenL1; first | omega | (constructor <;> omega) | (refine ⟨?_, ?_, ?_⟩ <;> omega) | (rw [i64_iff]; constructor <;> omega)) ?_
   refine g_need (by have hb := (s[i]!).toNat_lt; have hL := lenL1; first | omega | (constructor <;> omega) | (refine ⟨?_, ?_, ?_⟩ <;> omega) | (rw [i64_iff]; constructor <;> omega)) ?_
   refine g_iteND (fun h1 => ?_) (fun h1 => ?_)
   ·refine g_need (by have hb := (s[i]!).toNat_lt; have hL := lenL1; first | omega | (constructor <;> omega) | (refine ⟨?_, ?_, ?_⟩ <;> omega) | (rw [i64_iff]; constructor <;> omega)) ?_
    refine g_stop (RunN.keep [0] (true :: F8 (true :: true :: false :: true :: F32 (F32 (F16 (F8 (F4 (false :: []))))))) n0 (by decide) rfl rfl ?_)
    rw [if_pos (by omega), if_neg (show ¬ spA s i = 0 from h1)] at hm; exact ih n a (i + 1) ha hn hm
   ·refine g_stop (RunN.keep [0] (true :: F8 (true :: true :: true :: true :: F32 (F32 (F16 (F8 (F4 (false :: []))))))) n0 (by decide) rfl rfl ?_)
    first | (rw [if_neg (by omega)] at hm; exact (fields_w s W hs f).1 n a 0 i i ha hn hm) | (rw [if_pos (by omega), if_pos (show spA s i = 0 from h1)] at hm; exact (fields_w s W hs f).1 n a 0 i i ha hn hm)
  ·refine g_stop (RunN.keep [0] (true :: F8 (true :: true :: true :: true :: F32 (F32 (F16 (F8 (F4 (false :: []))))))) n0 (by decide) rfl rfl ?_)
   first | (rw [if_neg (by omega)] at hm; exact (fields_w s W hs f).1 n a 0 i i ha hn hm) | (rw [if_pos (by omega), if_pos (show spA s i = 0 from h1)] at hm; exact (fields_w s W hs f).1 n a 0 i i ha hn hm)
theorem fields_14 (s : ByteArray) (N : Int) (W : List ByteArray) (f : Nat) (hs : s.size ≤ 1000) (hN : 0 ≤ N ∧ N ≤ 1000) (hm : w1F s N.toNat f 0 (List.replicate N.toNat ByteArray.empty) = some W) : Run Tryz.prog 194 (retQ Tryz.prog (.c (.ro .str W))) (rg (bodyOf Tryz.f194) 14) (.c (.str s) :: J2 (.c (.int .i64 N) :: J32 (J32 (J32 (J4 (J2 ([]))))))) [] := by
 refine Run.roundA oc0 fields_lv 3000 Tryz.func194 mixed (fields_r14_R s N) (by kernel_rfl) ?_
 unfold fields_r14_R
 refine g_need (by refine ⟨by omega, by omega, by omega, by omega⟩) ?_
 refine g_stop (RunN.keep [0] (true :: F8 (true :: true :: false :: true :: F32 (F32 (F16 (F8 (F4 (false :: []))))))) n0 (by decide) rfl rfl ?_)
 exact fields_w1 s W hs f N.toNat _ 0 (by simp) (by omega) hm
theorem fields_m (s : ByteArray) (N : Int) (W : List ByteArray) (hs : s.size ≤ 1000) (h14 : Run Tryz.prog 194 (retQ Tryz.prog (.c (.ro .str W))) (rg (bodyOf Tryz.f194) 14) (.c (.str s) :: J2 (.c (.int .i64 N) :: J32 (J32 (J32 (J4 (J2 ([]))))))) []) : ∀ (f : Nat) (n was bits : Int) (i : Nat), m0 s f n was bits i = some N → Run Tryz.prog 194 (retQ Tryz.prog (.c (.ro .str W))) (lp (bodyOf Tryz.f194) 0) (.c (.str s) :: J2 (.c (.int .i64 n) :: .c (.int .i64 was) :: .c (.int .u8 bits) :: .c (.int .i64 ((i : Nat) : Int)) :: J32 (J32 (J32 (J2 (.junk :: [])))))) [] := by
 intro f
 induction f with
 | zero => exact fun n was bits i h => absurd h (by simp [m0])
 | succ f ih =>
  intro n was bits i hm
  unfold m0 at hm
  refine Run.roundA oc0 fields_lv 3000 Tryz.func194 mixed (fields_l0_R s n was bits i) (by kernel_rfl) ?_
  unfold fields_l0_R
  refine g_iteD (fun h0 => ?_) (fun h0 => ?_)
  ·refine g_need (by omega) ?_
   refine g_need (by have hb := (s[i]!).toNat_lt; have hL := lenL1; first | omega | (constructor <;> omega) | (refine ⟨?_, ?_, ?_⟩ <;> omega) | (rw [i64_iff]; constructor <;> omega)) ?_
   refine g_need (by have hb := (s[i]!).toNat_lt; have hL := lenL1; first | omega | (constructor <;> omega) | (refine ⟨?_, ?_, ?_⟩ <;> omega) | (rw [i64_iff]; constructor <;> omega)) ?_
   refine g_need (by rw [if_pos (by omega)] at hm; split at hm; assumption; cases hm) ?_
   refine g_need (by have hb := (s[i]!).toNat_lt; have hL := lenL1; first | omega | (constructor <;> omega) | (refine ⟨?_, ?_, ?_⟩ <;> omega) | (rw [i64_iff]; constructor <;> omega)) ?_
   refine g_stop (RunN.keep [] (true :: F2 (true :: true :: true :: true :: F32 (F32 (F32 (F2 (false :: [])))))) n0 (by decide) rfl rfl ?_)
   rw [if_pos (by omega)] at hm; split at hm; exact ih _ _ _ _ hm; cases hm
  ·refine g_iteD (fun h1 => ?_) (fun h1 => ?_)
   ·refine g_stop (RunN.keep [] (true :: F32 (F32 (F32 (F8 (false :: []))))) n0 (by decide) rfl rfl ?_)
    exfalso; rw [if_neg (by omega), if_pos (by assumption)] at hm; cases hm
   ·refine g_stop (RunN.keep [] (true :: F2 (true :: F32 (F32 (F32 (F4 (F2 ([]))))))) n0 (by decide) rfl rfl ?_)
    rw [if_neg (by omega), if_neg (by assumption)] at hm; split at hm; injection hm with hm; subst hm; exact h14; cases hm
theorem fields_fun (s : ByteArray) (N : Int) (W : List ByteArray) (f1 f2 : Nat) (hs : s.size ≤ 1000) (hN : 0 ≤ N ∧ N ≤ 1000) (hm : m0 s f1 0 1 0 0 = some N) (hw : w1F s N.toNat f2 0 (List.replicate N.toNat ByteArray.empty) = some W) : AFun Tryz.prog 194 [.c (.str s)] (.c (.ro .str (W))) :=
 AFun.of oc0 fields_lv 3000 Tryz.func194 mixed rfl (by decide) (Nat.le_of_ble_eq_true rfl) (fields_T s) (by kernel_rfl) fun hF => by
  unfold fields_T
  refine g_stop (RunN.keep [] (true :: F2 (true :: true :: true :: true :: F32 (F32 (F32 (F2 (false :: [])))))) n0 (by decide) rfl rfl ?_)
  exact fields_m s N W hs (fields_14 s N W f2 hs hN hw) f1 0 1 0 0 hm

end Go.Proofs.YtkonkblfckhcbaaGreatDoor
namespace Go.Proofs.YtkonkblfckhcbaaGreatDoor
set_option linter.unusedVariables false
set_option linter.unusedSimpArgs false
set_option maxRecDepth 100000
theorem words_m : m0 wordsC 300 0 1 0 0 = some 19 := by kernel_rfl
noncomputable def wordsL : List ByteArray := (w1F wordsC 19 300 0 (List.replicate 19 ByteArray.empty)).getD []
theorem words_some : (w1F wordsC 19 300 0 (List.replicate 19 ByteArray.empty)).isSome = true := by kernel_rfl
theorem words_w : w1F wordsC (Int.toNat 19) 300 0 (List.replicate (Int.toNat 19) ByteArray.empty) = some wordsL := by
 show w1F wordsC 19 300 0 (List.replicate 19 ByteArray.empty) = some wordsL
 unfold wordsL
 have h := words_some
 cases hq : w1F wordsC 19 300 0 (List.replicate 19 ByteArray.empty) with
 | none => rw [hq] at h; cases h
 | some l => rfl
theorem words_size : wordsC.size ≤ 1000 := by decide
noncomputable def oc15 : Orc where
 pure := fun f args => match f, args with
  | 194, [a0] => match dA .str a0 with
   | some x0 => some (.c (.ro .str (wordsL)))
   | _ => none
  | _, _ => none
 heap := fun _ _ _ => none
def words_lv : LV := ⟨([]), []⟩
noncomputable def words_T  : Tree :=
 .call 194 [.c (.str wordsC)] false (.c (.ro .str wordsL)) <|
 .ret (.c (.ro .str wordsL)) []
theorem words_fun  : AFun Tryz.prog 146 [] (.c (.ro .str (wordsL))) :=
 AFun.of oc15 words_lv 3000 Tryz.func146 mixed rfl (by decide) (Nat.le_of_ble_eq_true rfl) (words_T ) (by kernel_rfl) fun hF => by
  unfold words_T
  refine g_call (fields_fun _ 19 _ 300 300 words_size (by decide) words_m words_w) (fun h => nomatch h) ?_
  exact g_rt rfl rfl (by simp [leAV, leA1, leC])

theorem drop_eqL {α : Type} [DecidableEq α] {a b : List α} {i : Nat} (d : α) (hl : a.length = b.length) (hi : i < a.length) : (a.drop i = b.drop i) ↔ (a.getD i d = b.getD i d ∧ a.drop (i + 1) = b.drop (i + 1)) := by
 rw [dropCons (l := a) d hi, dropCons (l := b) d (by omega), List.cons.injEq]
def eqS_lv : LV := ⟨(true :: true :: F8 (F2 (true :: true :: F8 (F4 ([]))))), []⟩
noncomputable def eqS_T (a : List ByteArray) (b : List ByteArray) : Tree :=
 .ite ((!(decide ((a.length : Int) = (b.length : Int)))))
 (.ret (.c (.lit false)) [])
 (.stop (lp (bodyOf Tryz.f51) 0) (.c (.ro .str a) :: .c (.ro .str b) :: J8 (J2 (.c (.int .i64 (a.length : Int)) :: .c (.int .i64 0) :: J8 (J4 ([]))))) [])
noncomputable def eqS_l0_R (a : List ByteArray) (b : List ByteArray) (i : Nat) : Tree :=
 .ite (decide (((i : Nat) : Int) < (a.length : Int)))
 (.need ((0 : Int) ≤ ((i : Nat) : Int) ∧ (((i : Nat) : Int) : Int) < (a.length : Int)) <|
  .need (i < a.length) <|
  .need ((0 : Int) ≤ ((i : Nat) : Int) ∧ (((i : Nat) : Int) : Int) < (b.length : Int)) <|
  .need (i < b.length) <|
  .ite ((!(decide ((a.getD i (.str : Ty).dflt) = (b.getD i (.str : Ty).dflt)))))
  (.ret (.c (.lit false)) [])
  (.need (inR .i64 (((i : Nat) : Int) + 1)) <|
  .stop (lp (bodyOf Tryz.f51) 0) (.c (.ro .str a) :: .c (.ro .str b) :: J8 (J2 (.c (.int .i64 (a.length : Int)) :: .c (.int .i64 (((i : Nat) : Int) + 1)) :: J8 (J4 ([]))))) []))
 (.ret (.c (.lit true)) [])
theorem eqS_l0 (a : List ByteArray) (b : List ByteArray) (i : Nat) (hl : a.length = b.length) (hb : a.length ≤ 9223372036854775807) : Run Tryz.prog 51 (retQ Tryz.prog (.c (.bool (decide (a.drop i = b.drop i))))) (lp (bodyOf Tryz.f51) 0) (.c (.ro .str a) :: .c (.ro .str b) :: J8 (J2 (.c (.int .i64 (a.length : Int)) :: .c (.int .i64 ((i : Nat) : Int)) :: J8 (J4 ([]))))) [] :=
 Run.roundA oc0 eqS_lv 3000 Tryz.func51 mixed (eqS_l0_R a b i) (by kernel_rfl) (by
  unfold eqS_l0_R
  refine g_iteD (fun h0 => ?_) (fun h0 => ?_)
  ·refine g_need (by omega) ?_
   refine g_need (by omega) ?_
   refine g_need (by omega) ?_
   refine g_need (by omega) ?_
   refine g_iteND (fun h1 => ?_) (fun h1 => ?_)
   ·exact g_retl (by symm; rw [decide_eq_false_iff_not, drop_eqL (Ty.dflt .str) hl (by omega)]; exact fun q => h1 q.1)
   ·refine g_need (i64_iff.2 (by omega)) ?_
    refine g_stop (RunN.keep [] (true :: true :: F8 (F2 (true :: true :: F8 (F4 ([]))))) n0 (by decide) rfl rfl ?_)
    have := eqS_l0 a b (i + 1) hl hb; have e : decide (a.drop i = b.drop i) = decide (a.drop (i + 1) = b.drop (i + 1)) := (by rw [decide_eq_decide, drop_eqL (Ty.dflt .str) hl (by omega)]; exact ⟨fun q => q.2, fun q => ⟨h1, q⟩⟩); rw [e]; exact this
  ·exact g_retl (by rw [List.drop_eq_nil_of_le (by omega), List.drop_eq_nil_of_le (by omega)]; rfl)
  )
 termination_by a.length - i
 decreasing_by all_goals omega
theorem eqS_fun (a : List ByteArray) (b : List ByteArray) : AFun Tryz.prog 51 [.c (.ro .str a), .c (.ro .str b)] (.c (.bool (decide (a = b)))) :=
 AFun.of oc0 eqS_lv 3000 Tryz.func51 mixed rfl (by decide) (Nat.le_of_ble_eq_true rfl) (eqS_T a b) (by kernel_rfl) fun hF => by
  unfold eqS_T
  refine g_iteND (fun h0 => ?_) (fun h0 => ?_)
  ·exact g_retl (by symm; rw [decide_eq_false_iff_not]; intro q; exact h0 (by rw [q]))
  ·refine g_stop (RunN.keep [] (true :: true :: F8 (F2 (true :: true :: F8 (F4 ([]))))) n0 (by decide) rfl rfl ?_)
   have := eqS_l0 a b 0 (by omega) hF.ro.1.1; exact this

end Go.Proofs.YtkonkblfckhcbaaGreatDoor
namespace Go.Proofs.YtkonkblfckhcbaaGreatDoor
set_option linter.unusedVariables false
set_option linter.unusedSimpArgs false
set_option maxRecDepth 100000
theorem lawStr : MapLaw Tryz.prog 9 .str := ⟨Maps.string_keyed Tryz.underlying9, fun x hx => by
 have hx : x.size ≤ 9223372036854775807 := hx
 have hm : x.size ≤ maxLen := hx
 exact ⟨.string x.data.toList, by simp [keyOf, mapKey, plainV, plainCs, Ty.isPair, Tryz.underlying9]; exact hm⟩⟩
def oddV (p : EProg) (v : EVal) : Bool := if rightVF v = true then (if v.1 = 5 then true else if v.1 = 4 then decide ((p.2.2.length : Int) ≤ v.2) else false) else true
noncomputable def oc16 : Orc where
 pure := fun f args => match f, args with
  | 130, [a0] => match dA tVal a0 with
   | some x0 => some (.c (.bool (rightVF x0)))
   | _ => none
  | _, _ => none
 heap := fun _ _ _ => none
def oddv_lv : LV := ⟨([]), []⟩
noncomputable def oddv_T (v : EVal) (p : EProg) : Tree :=
 .call 130 [.agg (Ty.enc tVal v)] false (.c (.bool (rightVF v))) <|
 .ite ((!(rightVF v)))
 (.ret (.c (.lit true)) [.cells 26 (Ty.enc tProg p), .cells 48 (Ty.enc tVal v)])
 (.ite (decide (v.1 = 5))
  (.ret (.c (.lit true)) [.cells 26 (Ty.enc tProg p), .cells 48 (Ty.enc tVal v)])
  (.ite (decide (v.1 = 4))
  (.ret (.c (.bool (decide ((p.2.2.length : Int) ≤ v.2)))) [.cells 26 (Ty.enc tProg p), .cells 48 (Ty.enc tVal v)])
  (.ret (.c (.lit false)) [.cells 26 (Ty.enc tProg p), .cells 48 (Ty.enc tVal v)])))
theorem oddv_fun (v : EVal) (p : EProg) : AFunH Tryz.prog 147 [.agg (Ty.enc tVal v), .c (.ptr 0 0 0 0)] [.cells 26 (Ty.enc tProg p)] (.c (.bool (oddV p v))) [.cells 26 (Ty.enc tProg p)] (List.range 1) :=
 AFunH.of oc16 oddv_lv 3000 Tryz.func147 mixed rfl (by decide) (Nat.le_of_ble_eq_true rfl) rfl rfl (Nat.le_refl _) (oddv_T v p) (by kernel_rfl) fun hF => by
  unfold oddv_T
  repeat' first
  | with_reducible refine g_iteD (fun h => ?_) (fun h => ?_)
  | with_reducible refine g_iteN (fun h => ?_) (fun h => ?_)
  | refine g_call (rightV_fun v) (fun h => nomatch h) ?_
  | (exact g_rh [0] (kk rfl) (by decide) (by simp only [renA, ren1, renC, leAV, leA1, leC]; first | (simp only [oddV, *, if_true, if_false, Bool.false_eq_true]; done) | (simp_all [oddV]; done)) rfl)

def firstV (q : EVal → Bool) : Nat → List EVal → Int
 | _, [] => -1
 | i, f :: r => if q f = true then (i : Int) else firstV q (i + 1) r
theorem firstV_ge {q : EVal → Bool} : ∀ {l : List EVal} {i : Nat}, decide (0 ≤ firstV q i l) = l.any q
 | [], i => rfl
 | f :: r, i => by
  unfold firstV
  rw [List.any_cons]
  split
  ·rename_i h; rw [h]; simp
  ·rename_i h; rw [firstV_ge (l := r)]; simp only [Bool.not_eq_true] at h; rw [h]; rfl
noncomputable def oc17 : Orc where
 pure := fun f args => match f, args with
  | _, _ => none
 heap := fun f args H => match f, args with
  | 147, [a0, .one (.c (.ptr 0 0 0 0))] => match H with
   | [b0] => (match dA tVal a0, dB 26 tProg b0 with
    | some x0, some y0 => some (.c (.bool (oddV y0 x0)), [b0], List.range 1)
    | _, _ => none)
   | _ => none
  | _, _ => none
def idxV_lv : LV := ⟨(true :: true :: F4 (false :: true :: true :: F8 (F2 ([])))), []⟩
noncomputable def idxV_T (l : List EVal) (p : EProg) : Tree :=
 .stop (lp (bodyOf Tryz.f162) 0) (.c (.ro tVal l) :: .c (.fnc (.fn0 147) (.ptr 0 0 0 0)) :: J4 (.junk :: .c (.int .i64 (l.length : Int)) :: .c (.int .i64 0) :: J8 (J2 ([])))) [.cells 26 (Ty.enc tProg p)]
noncomputable def idxV_l0_R (l : List EVal) (p : EProg) (i : Nat) : Tree :=
 .ite (decide (((i : Nat) : Int) < (l.length : Int)))
 (.need ((0 : Int) ≤ ((i : Nat) : Int) ∧ (((i : Nat) : Int) : Int) < (l.length : Int)) <|
  .need (i < l.length) <|
  .callH 147 [.agg (Ty.enc tVal (l.getD i tVal.dflt)), .c (.ptr 0 0 0 0)] [.cells 26 (Ty.enc tProg p)] (.c (.bool (oddV p (l.getD i tVal.dflt)))) [.cells 26 (Ty.enc tProg p)] [0] <|
  .ite (oddV p (l.getD i tVal.dflt))
  (.ret (.c (.int .i64 ((i : Nat) : Int))) [.cells 26 (Ty.enc tProg p)])
  (.need (inR .i64 (((i : Nat) : Int) + 1)) <|
  .stop (lp (bodyOf Tryz.f162) 0) (.c (.ro tVal l) :: .c (.fnc (.fn0 147) (.ptr 0 0 0 0)) :: J4 (.junk :: .c (.int .i64 (l.length : Int)) :: .c (.int .i64 (((i : Nat) : Int) + 1)) :: J8 (J2 ([])))) [.cells 26 (Ty.enc tProg p)]))
 (.ret (.c (.int .i64 (-1))) [.cells 26 (Ty.enc tProg p)])
theorem idxV_l0 (l : List EVal) (p : EProg) (i : Nat) (hl : l.length ≤ 9223372036854775807) : RunN 1 Tryz.prog 162 (retH 1 (.c (.int .i64 (firstV (oddV p) i (l.drop i)))) [.cells 26 (Ty.enc tProg p)]) (lp (bodyOf Tryz.f162) 0) (.c (.ro tVal l) :: .c (.fnc (.fn0 147) (.ptr 0 0 0 0)) :: J4 (.junk :: .c (.int .i64 (l.length : Int)) :: .c (.int .i64 ((i : Nat) : Int)) :: J8 (J2 ([])))) [.cells 26 (Ty.enc tProg p)] :=
 Run.roundA oc17 idxV_lv 3000 Tryz.func162 mixed (idxV_l0_R l p i) (by kernel_rfl) (by
  unfold idxV_l0_R
  repeat' first
  | with_reducible refine g_iteD (fun h => ?_) (fun h => ?_)
  | with_reducible refine g_ite (fun h => ?_) (fun h => ?_)
  | refine g_need (by first | (omega) | (rw [i64_iff]; omega)) ?_
  | refine g_callH (oddv_fun (l.getD i tVal.dflt) p) ?_
  | (exact g_rh [0] (kk rfl) (by decide) (by simp only [renA, ren1, renC, leAV, leA1, leC]; refine ⟨trivial, ?_⟩; first | (rw [dropCons (α := EVal) (Ty.dflt tVal) (by omega)]; simp only [firstV, *, if_true]; done) | (rw [List.drop_eq_nil_of_le (by omega)]; rfl)) rfl)
  | (refine g_stop (RunN.keep [0] (true :: true :: F4 (false :: true :: true :: F8 (F2 ([])))) (kk rfl) (by decide) rfl rfl ?_); have := idxV_l0 l p (i + 1) hl; rw [dropCons (α := EVal) (Ty.dflt tVal) (by omega)]; simp only [firstV, *, if_false, Bool.false_eq_true]; exact this)
  )
 termination_by l.length - i
 decreasing_by all_goals omega
theorem idxV_fun (l : List EVal) (p : EProg) : AFunH Tryz.prog 162 [.c (.ro tVal l), .c (.fnc (.fn0 147) (.ptr 0 0 0 0))] [.cells 26 (Ty.enc tProg p)] (.c (.int .i64 (firstV (oddV p) 0 l))) [.cells 26 (Ty.enc tProg p)] (List.range 1) :=
 AFunH.of oc17 idxV_lv 3000 Tryz.func162 mixed rfl (by decide) (Nat.le_of_ble_eq_true rfl) rfl rfl (Nat.le_refl _) (idxV_T l p) (by kernel_rfl) fun hF => by
  have hl : l.length ≤ 9223372036854775807 := (hF.ro (i := 0) rfl).1
  unfold idxV_T
  refine g_stop (RunN.keep [0] (true :: true :: F4 (false :: true :: true :: F8 (F2 ([])))) (kk rfl) (by decide) rfl rfl ?_)
  exact idxV_l0 l p 0 hl

noncomputable def oc18 : Orc where
 pure := fun f args => match f, args with
  | _, _ => none
 heap := fun f args H => match f, args with
  | 162, [a0, .one (.c (.fnc (.fn0 147) (.ptr 0 0 0 0)))] => match H with
   | [b0] => (match dA (.slice tVal) a0, dB 26 tProg b0 with
    | some x0, some y0 => some (.c (.int .i64 (firstV (oddV y0) 0 x0)), [b0], List.range 1)
    | _, _ => none)
   | _ => none
  | _, _ => none
def conV_lv : LV := ⟨([]), []⟩
noncomputable def conV_T (l : List EVal) (p : EProg) : Tree :=
 .callH 162 [.c (.ro tVal l), .c (.fnc (.fn0 147) (.ptr 0 0 0 0))] [.cells 26 (Ty.enc tProg p)] (.c (.int .i64 (firstV (oddV p) 0 l))) [.cells 26 (Ty.enc tProg p)] [0] <|
 .ret (.c (.bool (decide ((0 : Int) ≤ firstV (oddV p) 0 l)))) [.cells 26 (Ty.enc tProg p)]
theorem conV_fun (l : List EVal) (p : EProg) : AFunH Tryz.prog 108 [.c (.ro tVal l), .c (.fnc (.fn0 147) (.ptr 0 0 0 0))] [.cells 26 (Ty.enc tProg p)] (.c (.bool (List.any l (oddV p)))) [.cells 26 (Ty.enc tProg p)] (List.range 1) :=
 AFunH.of oc18 conV_lv 3000 Tryz.func108 mixed rfl (by decide) (Nat.le_of_ble_eq_true rfl) rfl rfl (Nat.le_refl _) (conV_T l p) (by kernel_rfl) fun hF => by
  unfold conV_T
  refine g_callH (idxV_fun l p) ?_
  exact g_rh [0] (kk rfl) (by decide) (by simp only [renA, ren1, renC, leAV, leA1, leC]; exact firstV_ge) rfl

noncomputable def oc19 : Orc where
 pure := fun f args => match f, args with
  | 146, [] => some (.c (.ro .str (wordsL)))
  | 51, [a0, a1] => match dA (.slice .str) a0, dA (.slice .str) a1 with
   | some x0, some x1 => some (.c (.bool (decide (x0 = x1))))
   | _, _ => none
  | _, _ => none
 heap := fun f args H => match f, args with
  | 108, [a0, .one (.c (.fnc (.fn0 147) (.ptr 0 0 0 0)))] => match H with
   | [b0] => (match dA (.slice tVal) a0, dB 26 tProg b0 with
    | some x0, some y0 => some (.c (.bool (List.any x0 (oddV y0))), [b0], List.range 1)
    | _, _ => none)
   | _ => none
  | _, _ => none
def onceF (p : EProg) : List ByteArray → (ByteArray → Option Int) → Bool
 | [], _ => !(List.any p.2.1 (oddV p))
 | t :: r, m => if (m t).getD 0 = 1 then false else onceF p r (updM (kt := .str) m t 1)
noncomputable def tablesF (p : EProg) : Bool := if (p.2.2.length : Int) < (wordsL.length : Int) then false else if p.2.2.take wordsL.length = wordsL then onceF p p.2.2 (fun _ => none) else false
def tables_lv : LV := ⟨(false :: true :: F2 (true :: F16 (F4 (false :: true :: true :: true :: F8 (F4 (F2 (false :: []))))))), [4, 12]⟩
noncomputable def tables_T (p : EProg) : Tree :=
 .call 146 [] false (.c (.ro .str wordsL)) <|
 .ite (decide ((p.2.2.length : Int) < (wordsL.length : Int)))
 (.ret (.c (.lit false)) [.cells 26 (Ty.enc tProg p)])
 (.need ((0 : Int) ≤ (wordsL.length : Int) ∧ ((wordsL.length : Int) : Int) ≤ (p.2.2.length : Int)) <|
  .call 51 [.c (.ro .str (p.2.2.take wordsL.length)), .c (.ro .str wordsL)] false (.c (.bool (decide ((p.2.2.take wordsL.length) = wordsL)))) <|
  .ite ((!(decide ((p.2.2.take wordsL.length) = wordsL))))
  (.ret (.c (.lit false)) [.cells 26 (Ty.enc tProg p)])
  (.stop (rg (bodyOf Tryz.f96) 4) (.junk :: .c (.ptr 0 0 0 0) :: J32 (J8 (J2 ([])))) [.cells 26 (Ty.enc tProg p)]))
noncomputable def tables_r12_R (p : EProg) : Tree :=
 .callH 108 [.c (.ro tVal p.2.1), .c (.fnc (.fn0 147) (.ptr 0 0 0 0))] [.cells 26 (Ty.enc tProg p)] (.c (.bool (List.any p.2.1 (oddV p)))) [.cells 26 (Ty.enc tProg p)] [0] <|
 .ret (.c (.bool (!(List.any p.2.1 (oddV p))))) [.cells 26 (Ty.enc tProg p)]
noncomputable def tables_l0_R (p : EProg) (i : Nat) (n : Nat) (m : ByteArray → Option Int) : Tree :=
 .ite (decide (((i : Nat) : Int) < (p.2.2.length : Int)))
 (.need ((0 : Int) ≤ ((i : Nat) : Int) ∧ (((i : Nat) : Int) : Int) < (p.2.2.length : Int)) <|
  .need (i < p.2.2.length) <|
  .need (Tryz.prog = Tryz.prog ∧ MapLaw Tryz.prog 9 .str) <|
  .ite (decide (((m (p.2.2.getD i (.str : Ty).dflt)).getD 0) = 1))
  (.ret (.c (.lit false)) [.cells 26 (Ty.enc tProg p), .map 9 .str tI n m])
  (.need (Tryz.prog = Tryz.prog ∧ MapLaw Tryz.prog 9 .str ∧ n < 140737488355328) <|
  .need (inR .i64 (((i : Nat) : Int) + 1)) <|
  .stop (lp (bodyOf Tryz.f96) 0) (.junk :: .c (.ptr 0 0 0 0) :: J2 (.c (.map 1) :: J16 (J4 (.junk :: .c (.ro .str p.2.2) :: .c (.int .i64 (p.2.2.length : Int)) :: .c (.int .i64 (((i : Nat) : Int) + 1)) :: J8 (J4 (J2 (.junk :: []))))))) [.cells 26 (Ty.enc tProg p), .map 9 .str tI (n + 1) (updM (kt := .str) m (p.2.2.getD i (.str : Ty).dflt) (1 : Int))]))
 (.stop (rg (bodyOf Tryz.f96) 12) (.junk :: .c (.ptr 0 0 0 0) :: J2 (.c (.map 1) :: J16 (J4 (.junk :: .c (.ro .str p.2.2) :: .c (.int .i64 (p.2.2.length : Int)) :: .c (.int .i64 ((i : Nat) : Int)) :: J8 (J4 (J2 (.junk :: []))))))) [.cells 26 (Ty.enc tProg p), .map 9 .str tI n m])
noncomputable def tables_r4_R (p : EProg) : Tree :=
 .need (Tryz.prog = Tryz.prog) <|
 .stop (lp (bodyOf Tryz.f96) 0) (.junk :: .c (.ptr 0 0 0 0) :: J2 (.c (.map 1) :: J16 (J4 (.junk :: .c (.ro .str p.2.2) :: .c (.int .i64 (p.2.2.length : Int)) :: .c (.int .i64 0) :: J8 (J4 (J2 (.junk :: []))))))) [.cells 26 (Ty.enc tProg p), .map 9 .str tI 0 (fun _ => none)]
theorem tables_r12 (p : EProg)  : Run Tryz.prog 96 (retQ Tryz.prog (.c (.bool (!(List.any p.2.1 (oddV p)))))) (rg (bodyOf Tryz.f96) 12) (.junk :: .c (.ptr 0 0 0 0) :: J32 (J8 (J2 ([])))) [.cells 26 (Ty.enc tProg p)] :=
 Run.roundA oc19 tables_lv 3000 Tryz.func96 mixed (tables_r12_R p) (by kernel_rfl) (by
  unfold tables_r12_R
  refine g_callH (conV_fun p.2.1 p) ?_
  exact g_retb (by rfl)
  )
theorem tables_l0 (p : EProg) (i : Nat) (n : Nat) (m : ByteArray → Option Int) (hl : p.2.2.length ≤ 200) (hn : n = i) : Run Tryz.prog 96 (retQ Tryz.prog (.c (.bool (onceF p (p.2.2.drop i) m)))) (lp (bodyOf Tryz.f96) 0) (.junk :: .c (.ptr 0 0 0 0) :: J2 (.c (.map 1) :: J16 (J4 (.junk :: .c (.ro .str p.2.2) :: .c (.int .i64 (p.2.2.length : Int)) :: .c (.int .i64 ((i : Nat) : Int)) :: J8 (J4 (J2 (.junk :: []))))))) [.cells 26 (Ty.enc tProg p), .map 9 .str tI n m] :=
 Run.roundA oc19 tables_lv 3000 Tryz.func96 mixed (tables_l0_R p i n m) (by kernel_rfl) (by
  unfold tables_l0_R
  refine g_iteD (fun h0 => ?_) (fun h0 => ?_)
  ·refine g_need (by omega) ?_
   refine g_need (by omega) ?_
   refine g_need (by exact ⟨rfl, lawStr⟩) ?_
   refine g_iteD (fun h1 => ?_) (fun h1 => ?_)
   ·exact g_retl (by rw [dropCons (α := ByteArray) (Ty.dflt .str) (by omega)]; simp only [onceF, h0, h1, if_true])
   ·refine g_need (by exact ⟨rfl, lawStr, by omega⟩) ?_
    refine g_need (by rw [i64_iff]; omega) ?_
    refine g_stop (RunN.keep [0, 1] (false :: true :: F2 (true :: F16 (F4 (false :: true :: true :: true :: F8 (F4 (F2 (false :: []))))))) n0 (by decide) rfl rfl ?_)
    have := tables_l0 p (i + 1) (n + 1) (updM (kt := .str) m (p.2.2.getD i (.str : Ty).dflt) (1 : Int)) hl (by omega); rw [dropCons (α := ByteArray) (Ty.dflt .str) (by omega)]; simp only [onceF, h0, h1, if_false]; exact this
  ·refine g_stop (RunN.keep [0] (false :: true :: F32 (F8 (F2 ([])))) n0 (by decide) rfl rfl ?_)
   have := tables_r12 p; rw [List.drop_eq_nil_of_le (by omega)]; exact this
  )
 termination_by p.2.2.length - i
 decreasing_by all_goals omega
theorem tables_r4 (p : EProg) (hl : p.2.2.length ≤ 200) : Run Tryz.prog 96 (retQ Tryz.prog (.c (.bool (onceF p p.2.2 (fun _ => none))))) (rg (bodyOf Tryz.f96) 4) (.junk :: .c (.ptr 0 0 0 0) :: J32 (J8 (J2 ([])))) [.cells 26 (Ty.enc tProg p)] :=
 Run.roundA oc19 tables_lv 3000 Tryz.func96 mixed (tables_r4_R p) (by kernel_rfl) (by
  unfold tables_r4_R
  refine g_need (rfl) ?_
  refine g_stop (RunN.keep [0, 1] (false :: true :: F2 (true :: F16 (F4 (false :: true :: true :: true :: F8 (F4 (F2 (false :: []))))))) n0 (by decide) rfl rfl ?_)
  have := tables_l0 p 0 0 (fun _ => none) hl rfl; exact this
  )
theorem tables_fun (p : EProg) (hl : p.2.2.length ≤ 200) : AFun Tryz.prog 96 [.agg (tProg.enc p)] (.c (.bool (tablesF p))) :=
 AFun.of oc19 tables_lv 3000 Tryz.func96 mixed rfl (by decide) (Nat.le_of_ble_eq_true rfl) (tables_T p) (by kernel_rfl) fun hF => by
  unfold tables_T
  refine g_call (words_fun) (fun h => nomatch h) ?_
  refine g_iteD (fun h0 => ?_) (fun h0 => ?_)
  ·exact g_retl (by simp only [tablesF, h0, if_true, if_false])
  ·refine g_need (by omega) ?_
   refine g_call (eqS_fun (p.2.2.take wordsL.length) wordsL) (fun h => nomatch h) ?_
   refine g_iteND (fun h1 => ?_) (fun h1 => ?_)
   ·exact g_retl (by simp only [tablesF, h0, h1, if_true, if_false])
   ·refine g_stop (RunN.keep [0] (false :: true :: F32 (F8 (F2 ([])))) n0 (by decide) rfl rfl ?_)
    have ht := tables_r4 p hl; simp only [tablesF, h0, h1, if_true, if_false]; exact ht

end Go.Proofs.YtkonkblfckhcbaaGreatDoor
namespace Go.Proofs.YtkonkblfckhcbaaGreatDoor
set_option linter.unusedVariables false
set_option linter.unusedSimpArgs false
set_option maxRecDepth 100000
noncomputable def oc11 : Orc where
 pure := fun f args => match f, args with
  | 99, [a0, a1] => match dA tProg a0, dA tFn a1 with
   | some x0, some x1 => some (.c (.bool (functionF (toProg x0) (toFn x1))))
   | _, _ => none
  | _, _ => none
 heap := fun _ _ _ => none
def bad_lv : LV := ⟨([]), []⟩
noncomputable def bad_T (f : EFn) (p : EProg) : Tree :=
 .call 99 [.agg (Ty.enc tProg p), .agg (Ty.enc tFn f)] false (.c (.bool (functionF (toProg p) (toFn f)))) <|
 .ret (.c (.bool (!(functionF (toProg p) (toFn f))))) [.cells 26 (Ty.enc tProg p), .cells 104 (Ty.enc tFn f)]
theorem bad_fun (f : EFn) (p : EProg) (hf : f.2.2.2.2.length ≤ 600 ∧ f.2.1 ≤ 60) : AFunH Tryz.prog 98 [.agg (Ty.enc tFn f), .c (.ptr 0 0 0 0)] [.cells 26 (Ty.enc tProg p)] (.c (.bool ((!(functionF (toProg p) (toFn f)))))) [.cells 26 (Ty.enc tProg p)] (List.range 1) :=
 AFunH.of oc11 bad_lv 3000 Tryz.func98 mixed rfl (by decide) (Nat.le_of_ble_eq_true rfl) rfl rfl (Nat.le_refl _) (bad_T f p) (by kernel_rfl) fun hF => by
  unfold bad_T
  refine g_call (function_fun p f hf.1 hf.2) (fun h => nomatch h) ?_
  exact g_rh [0] (kk rfl) (by decide) (by simp only [renA, ren1, renC, leAV, leA1, leC]; try rfl) rfl

def firstF (q : EFn → Bool) : Nat → List EFn → Int
 | _, [] => -1
 | i, f :: r => if q f = true then (i : Int) else firstF q (i + 1) r
theorem firstF_ge {q : EFn → Bool} : ∀ {l : List EFn} {i : Nat}, decide (0 ≤ firstF q i l) = l.any q
 | [], i => rfl
 | f :: r, i => by
  unfold firstF
  rw [List.any_cons]
  split
  ·rename_i h; rw [h]; simp
  ·rename_i h; rw [firstF_ge (l := r)]; simp only [Bool.not_eq_true] at h; rw [h]; rfl
def badF (p : EProg) (f : EFn) : Bool := !(functionF (toProg p) (toFn f))
noncomputable def oc12 : Orc where
 pure := fun f args => match f, args with
  | _, _ => none
 heap := fun f args H => match f, args with
  | 98, [a0, .one (.c (.ptr 0 0 0 0))] => match H with
   | [b0] => (match dA tFn a0, dB 26 tProg b0 with
    | some x0, some y0 => some (.c (.bool ((!(functionF (toProg y0) (toFn x0))))), [b0], List.range 1)
    | _, _ => none)
   | _ => none
  | _, _ => none
def idxB_lv : LV := ⟨(true :: true :: F4 (false :: true :: true :: F8 (F2 ([])))), []⟩
noncomputable def idxB_T (l : List EFn) (p : EProg) : Tree :=
 .stop (lp (bodyOf Tryz.f148) 0) (.c (.ro tFn l) :: .c (.fnc (.fn0 98) (.ptr 0 0 0 0)) :: J4 (.junk :: .c (.int .i64 (l.length : Int)) :: .c (.int .i64 0) :: J8 (J2 ([])))) [.cells 26 (Ty.enc tProg p)]
noncomputable def idxB_l0_R (l : List EFn) (p : EProg) (i : Nat) : Tree :=
 .ite (decide (((i : Nat) : Int) < (l.length : Int)))
 (.need ((0 : Int) ≤ ((i : Nat) : Int) ∧ (((i : Nat) : Int) : Int) < (l.length : Int)) <|
  .need (i < l.length) <|
  .callH 98 [.agg (Ty.enc tFn (l.getD i tFn.dflt)), .c (.ptr 0 0 0 0)] [.cells 26 (Ty.enc tProg p)] (.c (.bool (!(functionF (toProg p) (toFn (l.getD i tFn.dflt)))))) [.cells 26 (Ty.enc tProg p)] [0] <|
  .ite ((!(functionF (toProg p) (toFn (l.getD i tFn.dflt)))))
  (.ret (.c (.int .i64 ((i : Nat) : Int))) [.cells 26 (Ty.enc tProg p)])
  (.need (inR .i64 (((i : Nat) : Int) + 1)) <|
  .stop (lp (bodyOf Tryz.f148) 0) (.c (.ro tFn l) :: .c (.fnc (.fn0 98) (.ptr 0 0 0 0)) :: J4 (.junk :: .c (.int .i64 (l.length : Int)) :: .c (.int .i64 (((i : Nat) : Int) + 1)) :: J8 (J2 ([])))) [.cells 26 (Ty.enc tProg p)]))
 (.ret (.c (.int .i64 (-1))) [.cells 26 (Ty.enc tProg p)])
theorem idxB_l0 (l : List EFn) (p : EProg) (i : Nat) (hl : l.length ≤ 9223372036854775807) (hs : ∀ f ∈ l, f.2.2.2.2.length ≤ 600 ∧ f.2.1 ≤ 60) : RunN 1 Tryz.prog 148 (retH 1 (.c (.int .i64 (firstF (badF p) i (l.drop i)))) [.cells 26 (Ty.enc tProg p)]) (lp (bodyOf Tryz.f148) 0) (.c (.ro tFn l) :: .c (.fnc (.fn0 98) (.ptr 0 0 0 0)) :: J4 (.junk :: .c (.int .i64 (l.length : Int)) :: .c (.int .i64 ((i : Nat) : Int)) :: J8 (J2 ([])))) [.cells 26 (Ty.enc tProg p)] :=
 Run.roundA oc12 idxB_lv 3000 Tryz.func148 mixed (idxB_l0_R l p i) (by kernel_rfl) (by
  unfold idxB_l0_R
  repeat' first
  | with_reducible refine g_iteD (fun h => ?_) (fun h => ?_)
  | with_reducible refine g_iteN (fun h => ?_) (fun h => ?_)
  | refine g_need (by first | (omega) | exact i64_iff.2 (by omega)) ?_
  | refine g_callH (bad_fun (l.getD i tFn.dflt) p (hs _ (getD_mem (Ty.dflt tFn) (by omega)))) ?_
  | (exact g_rh [0] (kk rfl) (by decide) (by simp only [renA, ren1, renC, leAV, leA1, leC]; refine ⟨trivial, ?_⟩; first | (rw [dropCons (α := EFn) (Ty.dflt tFn) (by omega)]; simp only [firstF, badF, *, if_true, Bool.not_false]; done) | (rw [List.drop_eq_nil_of_le (by omega)]; rfl)) rfl)
  | (refine g_stop (RunN.keep [0] (true :: true :: F4 (false :: true :: true :: F8 (F2 ([])))) (kk rfl) (by decide) rfl rfl ?_); have := idxB_l0 l p (i + 1) hl hs; rw [dropCons (α := EFn) (Ty.dflt tFn) (by omega)]; simp only [firstF, badF, *, if_false, Bool.false_eq_true, Bool.not_true]; exact this)
  )
 termination_by l.length - i
 decreasing_by all_goals omega
theorem idxB_fun (l : List EFn) (p : EProg) (hs : ∀ f ∈ l, f.2.2.2.2.length ≤ 600 ∧ f.2.1 ≤ 60) : AFunH Tryz.prog 148 [.c (.ro tFn l), .c (.fnc (.fn0 98) (.ptr 0 0 0 0))] [.cells 26 (Ty.enc tProg p)] (.c (.int .i64 (firstF (badF p) 0 l))) [.cells 26 (Ty.enc tProg p)] (List.range 1) :=
 AFunH.of oc12 idxB_lv 3000 Tryz.func148 mixed rfl (by decide) (Nat.le_of_ble_eq_true rfl) rfl rfl (Nat.le_refl _) (idxB_T l p) (by kernel_rfl) fun hF => by
  have hl : l.length ≤ 9223372036854775807 := (hF.ro (i := 0) rfl).1
  unfold idxB_T
  refine g_stop (RunN.keep [0] (true :: true :: F4 (false :: true :: true :: F8 (F2 ([])))) (kk rfl) (by decide) rfl rfl ?_)
  exact idxB_l0 l p 0 hl hs

noncomputable def oc13 : Orc where
 pure := fun f args => match f, args with
  | _, _ => none
 heap := fun f args H => match f, args with
  | 148, [a0, .one (.c (.fnc (.fn0 98) (.ptr 0 0 0 0)))] => match H with
   | [b0] => (match dA (.slice tFn) a0, dB 26 tProg b0 with
    | some x0, some y0 => some (.c (.int .i64 (firstF (badF y0) 0 x0)), [b0], List.range 1)
    | _, _ => none)
   | _ => none
  | _, _ => none
def conB_lv : LV := ⟨([]), []⟩
noncomputable def conB_T (l : List EFn) (p : EProg) : Tree :=
 .callH 148 [.c (.ro tFn l), .c (.fnc (.fn0 98) (.ptr 0 0 0 0))] [.cells 26 (Ty.enc tProg p)] (.c (.int .i64 (firstF (badF p) 0 l))) [.cells 26 (Ty.enc tProg p)] [0] <|
 .ret (.c (.bool (decide ((0 : Int) ≤ firstF (badF p) 0 l)))) [.cells 26 (Ty.enc tProg p)]
theorem conB_fun (l : List EFn) (p : EProg) (hs : ∀ f ∈ l, f.2.2.2.2.length ≤ 600 ∧ f.2.1 ≤ 60) : AFunH Tryz.prog 97 [.c (.ro tFn l), .c (.fnc (.fn0 98) (.ptr 0 0 0 0))] [.cells 26 (Ty.enc tProg p)] (.c (.bool (List.any l (badF p)))) [.cells 26 (Ty.enc tProg p)] (List.range 1) :=
 AFunH.of oc13 conB_lv 3000 Tryz.func97 mixed rfl (by decide) (Nat.le_of_ble_eq_true rfl) rfl rfl (Nat.le_refl _) (conB_T l p) (by kernel_rfl) fun hF => by
  unfold conB_T
  refine g_callH (idxB_fun l p hs) ?_
  exact g_rh [0] (kk rfl) (by decide) (by simp only [renA, ren1, renC, leAV, leA1, leC]; exact firstF_ge) rfl

theorem large_texts {p : EProg} (h : largeF (toProg p) = false) : p.2.2.length ≤ 200 := by
 unfold largeF at h
 simp only [Bool.or_eq_false_iff] at h
 have := of_decide_eq_false h.1.1.2
 simp [toProg] at this
 exact this
theorem large_fns {p : EProg} (h : largeF (toProg p) = false) : ∀ f ∈ p.1, f.2.2.2.2.length ≤ 600 ∧ f.2.1 ≤ 60 := by
 intro f hf
 unfold largeF at h
 simp only [Bool.or_eq_false_iff] at h
 have h1 := List.any_eq_false.1 h.2 (toFn f) (List.mem_map.2 ⟨f, hf, rfl⟩)
 simp [longFn, toFn] at h1
 exact ⟨h1.1, by have := of_decide_eq_false h1.2; omega⟩
noncomputable def oc14 : Orc where
 pure := fun f args => match f, args with
  | 95, [a0] => match dA tProg a0 with
   | some x0 => some (.c (.bool (largeF (toProg x0))))
   | _ => none
  | 96, [a0] => match dA tProg a0 with
   | some x0 => some (.c (.bool (tablesF x0)))
   | _ => none
  | _, _ => none
 heap := fun f args H => match f, args with
  | 97, [a0, .one (.c (.fnc (.fn0 98) (.ptr 0 0 0 0)))] => match H with
   | [b0] => (match dA (.slice tFn) a0, dB 26 tProg b0 with
    | some x0, some y0 => some (.c (.bool (List.any x0 (badF y0))), [b0], List.range 1)
    | _, _ => none)
   | _ => none
  | _, _ => none
noncomputable def okHead (p : EProg) : Bool := if tablesF p = true then (if p.1.length = 0 then false else if (p.1.getD 0 tFn.dflt).1 = 0 then (if 0 < (p.1.getD 0 tFn.dflt).2.2.2.1.length then false else if (p.1.getD 0 tFn.dflt).2.2.1 = true then false else true) else false) else false
noncomputable def codeF (p : EProg) : Int := if largeF (toProg p) = true then 2 else if okHead p = true then (if p.1.any (badF p) = true then 3 else 0) else 3
def codeCheck_lv : LV := ⟨(false :: true :: F32 (F8 ([]))), [5]⟩
noncomputable def codeCheck_T (p : EProg) : Tree :=
 .call 95 [.agg (Ty.enc tProg p)] false (.c (.bool (largeF (toProg p)))) <|
 .ite (largeF (toProg p))
 (.ret (.c (.int .i64 2)) [.cells 26 (Ty.enc tProg p)])
 (.call 96 [.agg (Ty.enc tProg p)] false (.c (.bool (tablesF p))) <|
  .ite ((!(tablesF p)))
  (.ret (.c (.int .i64 3)) [.cells 26 (Ty.enc tProg p)])
  (.ite (decide ((p.1.length : Int) = 0))
  (.ret (.c (.int .i64 3)) [.cells 26 (Ty.enc tProg p)])
  (.need ((0 : Int) ≤ 0 ∧ (0 : Int) < (p.1.length : Int)) <|
   .need (0 < p.1.length) <|
   .ite ((!(decide ((p.1.getD 0 tFn.dflt).1 = 0))))
   (.ret (.c (.int .i64 3)) [.cells 26 (Ty.enc tProg p)])
   (.need ((0 : Int) ≤ 0 ∧ (0 : Int) < (p.1.length : Int)) <|
   .need (0 < p.1.length) <|
   .ite (decide ((0 : Int) < ((p.1.getD 0 tFn.dflt).2.2.2.1.length : Int)))
   (.ret (.c (.int .i64 3)) [.cells 26 (Ty.enc tProg p)])
   (.need ((0 : Int) ≤ 0 ∧ (0 : Int) < (p.1.length : Int)) <|
    .need (0 < p.1.length) <|
    .ite ((p.1.getD 0 tFn.dflt).2.2.1)
    (.ret (.c (.int .i64 3)) [.cells 26 (Ty.enc tProg p)])
    (.stop (rg (bodyOf Tryz.f55) 5) (.junk :: .c (.ptr 0 0 0 0) :: J32 (J8 ([]))) [.cells 26 (Ty.enc tProg p)]))))))
noncomputable def codeCheck_r5_R (p : EProg) : Tree :=
 .callH 97 [.c (.ro tFn p.1), .c (.fnc (.fn0 98) (.ptr 0 0 0 0))] [.cells 26 (Ty.enc tProg p)] (.c (.bool (List.any p.1 (badF p)))) [.cells 26 (Ty.enc tProg p)] [0] <|
 .ite (List.any p.1 (badF p))
 (.ret (.c (.int .i64 3)) [.cells 26 (Ty.enc tProg p)])
 (.ret (.c (.int .i64 0)) [.cells 26 (Ty.enc tProg p)])
theorem codeCheck_r5 (p : EProg) (hl : largeF (toProg p) = false) : Run Tryz.prog 55 (retQ Tryz.prog (.c (.int .i64 (if p.1.any (badF p) = true then 3 else 0)))) (rg (bodyOf Tryz.f55) 5) (.junk :: .c (.ptr 0 0 0 0) :: J32 (J8 ([]))) [.cells 26 (Ty.enc tProg p)] :=
 Run.roundA oc14 codeCheck_lv 3000 Tryz.func55 mixed (codeCheck_r5_R p) (by kernel_rfl) (by
  unfold codeCheck_r5_R
  refine g_callH (conB_fun p.1 p (large_fns (by assumption))) ?_
  refine g_ite (fun h0 => ?_) (fun h0 => ?_)
  ·exact g_reti (by simp only [h0, if_true, if_false, Bool.false_eq_true])
  ·exact g_reti (by simp only [h0, if_true, if_false, Bool.false_eq_true])
  )
theorem codeCheck_fun (p : EProg) : AFun Tryz.prog 55 [.agg (tProg.enc p)] (.c (.int .i64 (codeF p))) :=
 AFun.of oc14 codeCheck_lv 3000 Tryz.func55 mixed rfl (by decide) (Nat.le_of_ble_eq_true rfl) (codeCheck_T p) (by kernel_rfl) fun hF => by
  unfold codeCheck_T
  refine g_call (large_fun p) (fun h => nomatch h) ?_
  refine g_ite (fun h0 => ?_) (fun h0 => ?_)
  ·exact g_reti (by simp only [codeF, okHead, h0, if_true, if_false, Bool.false_eq_true])
  ·refine g_call (tables_fun p (large_texts (by assumption))) (fun h => nomatch h) ?_
   refine g_iteN (fun h1 => ?_) (fun h1 => ?_)
   ·exact g_reti (by simp only [codeF, okHead, h0, h1, if_true, if_false, Bool.false_eq_true])
   ·refine g_iteD (fun h2 => ?_) (fun h2 => ?_)
    ·exact g_reti (by simp_all [codeF, okHead])
    ·refine g_need (by omega) ?_
     refine g_need (by omega) ?_
     refine g_iteND (fun h3 => ?_) (fun h3 => ?_)
     ·exact g_reti (by simp_all [codeF, okHead])
     ·refine g_need (by omega) ?_
      refine g_need (by omega) ?_
      refine g_iteD (fun h4 => ?_) (fun h4 => ?_)
      ·exact g_reti (by simp_all [codeF, okHead])
      ·refine g_need (by omega) ?_
       refine g_need (by omega) ?_
       refine g_ite (fun h5 => ?_) (fun h5 => ?_)
       ·exact g_reti (by simp_all [codeF, okHead])
       ·refine g_stop (RunN.keep [0] (false :: true :: F32 (F8 ([]))) n0 (by decide) rfl rfl ?_)
        have ht := codeCheck_r5 p h0; have e : codeF p = (if p.1.any (badF p) = true then 3 else 0) := (by unfold codeF; rw [if_neg (by simp [h0]), if_pos (by first | (simp only [okHead, h0, h1, h2, h3, h4, h5, if_true, if_false, Bool.false_eq_true]; done) | (simp_all [okHead]; done))]); rw [e]; exact ht

end Go.Proofs.YtkonkblfckhcbaaGreatDoor
namespace Go.Proofs.YtkonkblfckhcbaaGreatDoor
set_option linter.unusedVariables false
set_option linter.unusedSimpArgs false
set_option maxRecDepth 100000
noncomputable def oc8 : Orc where
 pure := fun f args => match f, args with
  | 55, [a0] => match dA tProg a0 with
   | some x0 => some (.c (.int .i64 (codeF x0)))
   | _ => none
  | 68, [a0] => match dA tI a0 with
   | some x0 => some (.tup [.agg (Ty.enc tForm ((ofF x0).1)), .c (.bool ((ofF x0).2))])
   | _ => none
  | 69, [a0, a1, a2, a3] => match dA tChk a0, dA tForm a1, dA tIns a2, dA tI a3 with
   | some x0, some x1, some x2, some x3 => some (.c (.bool (formedF x0 x1 x2 x3)))
   | _, _, _, _ => none
  | 70, [a0] => match dA tExit a0 with
   | some x0 => some (.c (.bool (bareF x0)))
   | _ => none
  | 71, [a0, a1, a2] => match dA tChk a0, dA tExit a1, dA tI a2 with
   | some x0, some x1, some x2 => some (.c (.bool (rightXF x0 x1 x2)))
   | _, _, _ => none
  | _, _ => none
 heap := fun _ _ _ => none
def insF (c : EChk) : Nat → List EIns → Int
 | _, [] => 0
 | i, x :: r => if (ofF x.1).2 = false then 7 else if formedF c (ofF x.1).1 x i = false then 3 else insF c (i + 1) r
def exitsF (c : EChk) (n : Int) : List EExit → Int
 | [] => 0
 | x :: r => if rightXF c x n = false then 3 else exitsF c n r
def turnOk (c : EChk) (t : ETrace) : Bool := (if t.2.2.1 = 0 then bareF t.2.2.2.2.2.1 else true) && (if 0 < t.2.2.1 then (decide (t.2.2.2.2.2.1.1 = t.2.1) && rightXF c t.2.2.2.2.2.1 t.2.2.1) else true)
def backOk (c : EChk) (t : ETrace) : Bool := decide (t.2.2.2.2.2.2.1 = t.2.1) && rightXF c t.2.2.2.2.2.2 (t.2.2.2.1.length : Int)
def headOk (p : EProg) (t : ETrace) : Bool := if t.1 < 0 then false else if (p.1.length : Int) ≤ t.1 then false else if t.2.1 < 0 then false else if ((p.1.getD (Int.toNat t.1) tFn.dflt).2.2.2.2.length : Int) ≤ t.2.1 then false else if t.2.2.1 < 0 then false else if (t.2.2.2.1.length : Int) < t.2.2.1 then false else true
def end3F (c : EChk) (t : ETrace) : Int := exitsF c (t.2.2.2.1.length : Int) t.2.2.2.2.1
def end2F (c : EChk) (t : ETrace) : Int := if backOk c t = true then end3F c t else 3
def end1F (c : EChk) (t : ETrace) : Int := if turnOk c t = true then end2F c t else 3
def thenF (a b : Int) : Int := if a = 0 then b else a
def bodyF (c : EChk) (t : ETrace) : Int := thenF (insF c 0 t.2.2.2.1) (end1F c t)
def sizeOk (t : ETrace) : Bool := if 300 < (t.2.2.2.1.length : Int) then false else if 200 < (t.2.2.2.2.1.length : Int) then false else true
def check4F (p : EProg) (t : ETrace) : Int := if sizeOk t = true then (if headOk p t = true then bodyF (p.1.getD (Int.toNat t.1) tFn.dflt, t) t else 3) else 2
noncomputable def checkF (p : EProg) (t : ETrace) : Int := if codeF p = 0 then check4F p t else codeF p
def check_lv : LV := ⟨(F2 (true :: true :: F2 (true :: F32 (F32 (F8 (F2 (true :: true :: true :: F32 (F32 (F2 (false :: true :: true :: true :: F8 (F2 (false :: [])))))))))))), [4, 8, 18, 21, 23]⟩
abbrev gCe3 (p : EProg) (t : ETrace) : List AB := [.cells 26 (Ty.enc tProg p), .cells 34 (Ty.enc tTrace t)]
abbrev gCe2 : List AV := (J2 (.c (.ptr 0 0 0 0) :: .c (.ptr 1 0 0 0) :: J32 (J32 (J32 (J32 (J32 (.junk :: [])))))))
noncomputable def check_T (p : EProg) (t : ETrace) : Tree :=
 .call 55 [.agg (Ty.enc tProg p)] false (.c (.int .i64 (codeF p))) <|
 .ite ((!(decide (codeF p = 0))))
 (.ret (.c (.int .i64 (codeF p))) (gCe3 p t))
 (.stop (rg (bodyOf Tryz.f32) 4) gCe2 (gCe3 p t))
abbrev gCe1 (t : ETrace) (p : EProg) : List AB := [.cells 34 (Ty.enc tTrace t), .cells 147 (Ty.enc tChk (p.1.getD (Int.toNat t.1) tFn.dflt, t))]
noncomputable def check_l1_R (p : EProg) (t : ETrace) (i : Nat) : Tree :=
 .ite (decide (((i : Nat) : Int) < (t.2.2.2.2.1.length : Int)))
 (.need ((0 : Int) ≤ ((i : Nat) : Int) ∧ (((i : Nat) : Int) : Int) < (t.2.2.2.2.1.length : Int)) <|
  .need (i < t.2.2.2.2.1.length) <|
  .call 71 [.agg (Ty.enc tChk (p.1.getD (Int.toNat t.1) tFn.dflt, t)), .agg (Ty.enc tExit (t.2.2.2.2.1.getD i tExit.dflt)), .c (.int .i64 (t.2.2.2.1.length : Int))] false (.c (.bool (rightXF ((p.1.getD (Int.toNat t.1) tFn.dflt), t) (t.2.2.2.2.1.getD i tExit.dflt) (t.2.2.2.1.length : Int)))) <|
  .ite ((!(rightXF ((p.1.getD (Int.toNat t.1) tFn.dflt), t) (t.2.2.2.2.1.getD i tExit.dflt) (t.2.2.2.1.length : Int))))
  (.ret (.c (.int .i64 3)) [.cells 34 (Ty.enc tTrace t), .cells 147 (Ty.enc tChk (p.1.getD (Int.toNat t.1) tFn.dflt, t)), .cells 32 (Ty.enc tExit (t.2.2.2.2.1.getD i tExit.dflt))])
  (.need (inR .i64 (((i : Nat) : Int) + 1)) <|
  .stop (lp (bodyOf Tryz.f32) 1) (J2 (.junk :: .c (.ptr 0 0 0 0) :: J2 (.c (.ptr 1 0 0 0) :: J32 (J32 (J32 (J32 (J16 (.c (.ro tExit t.2.2.2.2.1) :: .c (.int .i64 (t.2.2.2.2.1.length : Int)) :: .c (.int .i64 (((i : Nat) : Int) + 1)) :: J8 (J2 (.junk :: [])))))))))) [.cells 34 (Ty.enc tTrace t), .cells 147 (Ty.enc tChk (p.1.getD (Int.toNat t.1) tFn.dflt, t)), .cells 32 (Ty.enc tExit (t.2.2.2.2.1.getD i tExit.dflt))]))
 (.ret (.c (.int .i64 0)) (gCe1 t p))
noncomputable def check_r23_R (p : EProg) (t : ETrace) : Tree :=
 .stop (lp (bodyOf Tryz.f32) 1) (J2 (.junk :: .c (.ptr 0 0 0 0) :: J2 (.c (.ptr 1 0 0 0) :: J32 (J32 (J32 (J32 (J16 (.c (.ro tExit t.2.2.2.2.1) :: .c (.int .i64 (t.2.2.2.2.1.length : Int)) :: .c (.int .i64 0) :: J8 (J2 (.junk :: [])))))))))) (gCe1 t p)
abbrev bCe4 : List AV := (J2 (.junk :: .c (.ptr 0 0 0 0) :: J2 (.c (.ptr 1 0 0 0) :: J32 (J32 (J32 (J32 (J16 (J8 (J4 (J2 ([])))))))))))
noncomputable def check_r21_R (p : EProg) (t : ETrace) : Tree :=
 .ite ((!(decide (t.2.2.2.2.2.2.1 = t.2.1))))
 (.ret (.c (.int .i64 3)) (gCe1 t p))
 (.call 71 [.agg (Ty.enc tChk (p.1.getD (Int.toNat t.1) tFn.dflt, t)), .agg (Ty.enc tExit t.2.2.2.2.2.2), .c (.int .i64 (t.2.2.2.1.length : Int))] false (.c (.bool (rightXF ((p.1.getD (Int.toNat t.1) tFn.dflt), t) t.2.2.2.2.2.2 (t.2.2.2.1.length : Int)))) <|
  .ite ((!(rightXF ((p.1.getD (Int.toNat t.1) tFn.dflt), t) t.2.2.2.2.2.2 (t.2.2.2.1.length : Int))))
  (.ret (.c (.int .i64 3)) (gCe1 t p))
  (.stop (rg (bodyOf Tryz.f32) 23) bCe4 (gCe1 t p)))
noncomputable def check_r18_R (p : EProg) (t : ETrace) : Tree :=
 .ite (decide (t.2.2.1 = 0))
 (.call 70 [.agg (Ty.enc tExit t.2.2.2.2.2.1)] false (.c (.bool (bareF t.2.2.2.2.2.1))) <|
  .ite ((!(bareF t.2.2.2.2.2.1)))
  (.ite ((!(bareF t.2.2.2.2.2.1)))
  (.ret (.c (.int .i64 3)) (gCe1 t p))
  (.stop (rg (bodyOf Tryz.f32) 21) bCe4 (gCe1 t p)))
  (.ite (decide ((0 : Int) < t.2.2.1))
  (.ite ((!(decide (t.2.2.2.2.2.1.1 = t.2.1))))
   (.ret (.c (.int .i64 3)) (gCe1 t p))
   (.call 71 [.agg (Ty.enc tChk (p.1.getD (Int.toNat t.1) tFn.dflt, t)), .agg (Ty.enc tExit t.2.2.2.2.2.1), .c (.int .i64 t.2.2.1)] false (.c (.bool (rightXF ((p.1.getD (Int.toNat t.1) tFn.dflt), t) t.2.2.2.2.2.1 t.2.2.1))) <|
   .ite ((!(rightXF ((p.1.getD (Int.toNat t.1) tFn.dflt), t) t.2.2.2.2.2.1 t.2.2.1)))
   (.ret (.c (.int .i64 3)) (gCe1 t p))
   (.stop (rg (bodyOf Tryz.f32) 21) bCe4 (gCe1 t p))))
  (.stop (rg (bodyOf Tryz.f32) 21) bCe4 (gCe1 t p))))
 (.ite (decide ((0 : Int) < t.2.2.1))
  (.ite ((!(decide (t.2.2.2.2.2.1.1 = t.2.1))))
  (.ret (.c (.int .i64 3)) (gCe1 t p))
  (.call 71 [.agg (Ty.enc tChk (p.1.getD (Int.toNat t.1) tFn.dflt, t)), .agg (Ty.enc tExit t.2.2.2.2.2.1), .c (.int .i64 t.2.2.1)] false (.c (.bool (rightXF ((p.1.getD (Int.toNat t.1) tFn.dflt), t) t.2.2.2.2.2.1 t.2.2.1))) <|
   .ite ((!(rightXF ((p.1.getD (Int.toNat t.1) tFn.dflt), t) t.2.2.2.2.2.1 t.2.2.1)))
   (.ret (.c (.int .i64 3)) (gCe1 t p))
   (.stop (rg (bodyOf Tryz.f32) 21) bCe4 (gCe1 t p))))
  (.stop (rg (bodyOf Tryz.f32) 21) bCe4 (gCe1 t p)))
abbrev bCe0 (t : ETrace) (i : Nat) : AB := .cells 97 [.int .i64 (t.2.2.2.1.getD i tIns.dflt).1, .int .i64 (t.2.2.2.1.getD i tIns.dflt).2.1, .int .i64 (t.2.2.2.1.getD i tIns.dflt).2.2.1, .int .i64 (t.2.2.2.1.getD i tIns.dflt).2.2.2.1, .int .i64 (t.2.2.2.1.getD i tIns.dflt).2.2.2.2.1, .int .i64 (t.2.2.2.1.getD i tIns.dflt).2.2.2.2.2.1, .int .i64 (t.2.2.2.1.getD i tIns.dflt).2.2.2.2.2.2.1, .int .i64 (t.2.2.2.1.getD i tIns.dflt).2.2.2.2.2.2.2]
abbrev bCe1 (t : ETrace) (i : Nat) : AB := .cells 149 [.int .i64 (ofF (t.2.2.2.1.getD i tIns.dflt).1).1.1, .int .i64 (ofF (t.2.2.2.1.getD i tIns.dflt).1).1.2.1, .int .i64 (ofF (t.2.2.2.1.getD i tIns.dflt).1).1.2.2.1, .bool (ofF (t.2.2.2.1.getD i tIns.dflt).1).1.2.2.2.1, .bool (ofF (t.2.2.2.1.getD i tIns.dflt).1).1.2.2.2.2.1, .int .i64 (ofF (t.2.2.2.1.getD i tIns.dflt).1).1.2.2.2.2.2]
abbrev bCe2 (t : ETrace) (i : Nat) : List AV := (J2 (.junk :: .c (.ptr 0 0 0 0) :: J2 (.c (.ptr 1 0 0 0) :: J32 (J32 (J8 (J2 (.c (.ro tIns t.2.2.2.1) :: .c (.int .i64 (t.2.2.2.1.length : Int)) :: .c (.int .i64 ((i : Nat) : Int)) :: J32 (J32 (J16 (.junk :: []))))))))))
abbrev gCe0 (t : ETrace) (p : EProg) (i : Nat) : List AB := [.cells 34 (Ty.enc tTrace t), .cells 147 (Ty.enc tChk (p.1.getD (Int.toNat t.1) tFn.dflt, t)), (bCe0 t i), (bCe1 t i)]
noncomputable def check_l0_R (p : EProg) (t : ETrace) (i : Nat) : Tree :=
 .ite (decide (((i : Nat) : Int) < (t.2.2.2.1.length : Int)))
 (.need ((0 : Int) ≤ ((i : Nat) : Int) ∧ (((i : Nat) : Int) : Int) < (t.2.2.2.1.length : Int)) <|
  .need (i < t.2.2.2.1.length) <|
  .call 68 [.c (.int .i64 (t.2.2.2.1.getD i tIns.dflt).1)] false (.tup [.agg (Ty.enc tForm (ofF (t.2.2.2.1.getD i tIns.dflt).1).1), .c (.bool (ofF (t.2.2.2.1.getD i tIns.dflt).1).2)]) <|
  .ite ((!(ofF (t.2.2.2.1.getD i tIns.dflt).1).2))
  (.ret (.c (.int .i64 7)) (gCe0 t p i))
  (.call 69 [.agg (Ty.enc tChk (p.1.getD (Int.toNat t.1) tFn.dflt, t)), .agg (Ty.enc tForm (ofF (t.2.2.2.1.getD i tIns.dflt).1).1), .agg (Ty.enc tIns (t.2.2.2.1.getD i tIns.dflt)), .c (.int .i64 ((i : Nat) : Int))] false (.c (.bool (formedF ((p.1.getD (Int.toNat t.1) tFn.dflt), t) (ofF (t.2.2.2.1.getD i tIns.dflt).1).1 (t.2.2.2.1.getD i tIns.dflt) ((i : Nat) : Int)))) <|
  .ite ((!(formedF ((p.1.getD (Int.toNat t.1) tFn.dflt), t) (ofF (t.2.2.2.1.getD i tIns.dflt).1).1 (t.2.2.2.1.getD i tIns.dflt) ((i : Nat) : Int))))
  (.ret (.c (.int .i64 3)) (gCe0 t p i))
  (.need (inR .i64 (((i : Nat) : Int) + 1)) <|
   .stop (lp (bodyOf Tryz.f32) 0) (J2 (.junk :: .c (.ptr 0 0 0 0) :: J2 (.c (.ptr 1 0 0 0) :: J32 (J32 (J8 (J2 (.c (.ro tIns t.2.2.2.1) :: .c (.int .i64 (t.2.2.2.1.length : Int)) :: .c (.int .i64 (((i : Nat) : Int) + 1)) :: J32 (J32 (J16 (.junk :: [])))))))))) (gCe0 t p i))))
 (.stop (rg (bodyOf Tryz.f32) 18) (bCe2 t i) (gCe1 t p))
noncomputable def check_r8_R (p : EProg) (t : ETrace) : Tree :=
 .need ((0 : Int) ≤ t.1 ∧ (t.1 : Int) < (p.1.length : Int)) <|
 .need ((Int.toNat t.1) < p.1.length) <|
 .stop (lp (bodyOf Tryz.f32) 0) (J2 (.c (.ptr 0 0 0 0) :: .c (.ptr 1 0 0 0) :: J2 (.c (.ptr 2 0 0 0) :: J32 (J32 (J8 (J2 (.c (.ro tIns t.2.2.2.1) :: .c (.int .i64 (t.2.2.2.1.length : Int)) :: .c (.int .i64 0) :: J32 (J32 (J16 (.junk :: [])))))))))) [.cells 26 (Ty.enc tProg p), .cells 34 (Ty.enc tTrace t), .cells 147 (Ty.enc tChk (p.1.getD (Int.toNat t.1) tFn.dflt, t))]
noncomputable def check_r4_R (p : EProg) (t : ETrace) : Tree :=
 .ite (decide ((300 : Int) < (t.2.2.2.1.length : Int)))
 (.ret (.c (.int .i64 2)) (gCe3 p t))
 (.ite (decide ((200 : Int) < (t.2.2.2.2.1.length : Int)))
  (.ret (.c (.int .i64 2)) (gCe3 p t))
  (.ite (decide (t.1 < 0))
  (.ret (.c (.int .i64 3)) (gCe3 p t))
  (.ite (decide ((p.1.length : Int) ≤ t.1))
   (.ret (.c (.int .i64 3)) (gCe3 p t))
   (.ite (decide (t.2.1 < 0))
   (.ret (.c (.int .i64 3)) (gCe3 p t))
   (.need ((0 : Int) ≤ t.1 ∧ (t.1 : Int) < (p.1.length : Int)) <|
    .need ((Int.toNat t.1) < p.1.length) <|
    .ite (decide (((p.1.getD (Int.toNat t.1) tFn.dflt).2.2.2.2.length : Int) ≤ t.2.1))
    (.ret (.c (.int .i64 3)) (gCe3 p t))
    (.ite (decide (t.2.2.1 < 0))
    (.ret (.c (.int .i64 3)) (gCe3 p t))
    (.ite (decide ((t.2.2.2.1.length : Int) < t.2.2.1))
     (.ret (.c (.int .i64 3)) (gCe3 p t))
     (.stop (rg (bodyOf Tryz.f32) 8) gCe2 (gCe3 p t)))))))))
theorem check_l1 (p : EProg) (t : ETrace) (i : Nat) (he : t.2.2.2.2.1.length ≤ 200) : Run Tryz.prog 32 (retQ Tryz.prog (.c (.int .i64 (exitsF (p.1.getD (Int.toNat t.1) tFn.dflt, t) (t.2.2.2.1.length : Int) (t.2.2.2.2.1.drop i))))) (lp (bodyOf Tryz.f32) 1) (J2 (.junk :: .c (.ptr 0 0 0 0) :: J2 (.c (.ptr 1 0 0 0) :: J32 (J32 (J32 (J32 (J16 (.c (.ro tExit t.2.2.2.2.1) :: .c (.int .i64 (t.2.2.2.2.1.length : Int)) :: .c (.int .i64 ((i : Nat) : Int)) :: J8 (J2 (.junk :: [])))))))))) (gCe1 t p) :=
 Run.roundA oc8 check_lv 3000 Tryz.func32 mixed (check_l1_R p t i) (by kernel_rfl) (by
  unfold check_l1_R
  refine g_iteD (fun h0 => ?_) (fun h0 => ?_)
  ·refine g_need (by omega) ?_
   refine g_need (by omega) ?_
   refine g_call (rightX_fun ((p.1.getD (Int.toNat t.1) tFn.dflt), t) (t.2.2.2.2.1.getD i tExit.dflt) (t.2.2.2.1.length : Int)) (fun h => nomatch h) ?_
   refine g_iteN (fun h1 => ?_) (fun h1 => ?_)
   ·exact g_reti (by rw [dropCons (α := EExit) (Ty.dflt tExit) (by omega)]; simp only [exitsF, h0, h1, if_true, if_false])
   ·refine g_need (i64_iff.2 (by omega)) ?_
    refine g_stop (RunN.keep [0, 1] (F2 (false :: true :: F2 (true :: F32 (F32 (F32 (F32 (F16 (true :: true :: true :: F8 (F2 (false :: [])))))))))) n0 (by decide) rfl rfl ?_)
    have := check_l1 p t (i + 1) he; rw [dropCons (α := EExit) (Ty.dflt tExit) (by omega)]; simp only [exitsF, h0, h1, if_true, if_false, reduceCtorEq]; exact this
  ·exact g_reti (by rw [List.drop_eq_nil_of_le (by omega)]; rfl)
  )
 termination_by t.2.2.2.2.1.length - i
 decreasing_by all_goals omega
theorem check_r23 (p : EProg) (t : ETrace) (he : t.2.2.2.2.1.length ≤ 200) : Run Tryz.prog 32 (retQ Tryz.prog (.c (.int .i64 (end3F (p.1.getD (Int.toNat t.1) tFn.dflt, t) t)))) (rg (bodyOf Tryz.f32) 23) bCe4 (gCe1 t p) :=
 Run.roundA oc8 check_lv 3000 Tryz.func32 mixed (check_r23_R p t) (by kernel_rfl) (by
  unfold check_r23_R
  refine g_stop (RunN.keep [0, 1] (F2 (false :: true :: F2 (true :: F32 (F32 (F32 (F32 (F16 (true :: true :: true :: F8 (F2 (false :: [])))))))))) n0 (by decide) rfl rfl ?_)
  have ht := check_l1 p t 0 he; exact ht
  )
theorem check_r21 (p : EProg) (t : ETrace) (he : t.2.2.2.2.1.length ≤ 200) : Run Tryz.prog 32 (retQ Tryz.prog (.c (.int .i64 (end2F (p.1.getD (Int.toNat t.1) tFn.dflt, t) t)))) (rg (bodyOf Tryz.f32) 21) bCe4 (gCe1 t p) :=
 Run.roundA oc8 check_lv 3000 Tryz.func32 mixed (check_r21_R p t) (by kernel_rfl) (by
  unfold check_r21_R
  repeat' first
  | with_reducible refine g_iteND (fun h => ?_) (fun h => ?_)
  | with_reducible refine g_iteN (fun h => ?_) (fun h => ?_)
  | exact g_reti (by simp only [end2F, backOk, *, if_true, if_false, Bool.false_eq_true, reduceCtorEq, Int.reduceEq, Int.reduceNeg, decide_true, decide_false, Bool.not_true, Bool.not_false, Bool.and_true, Bool.true_and, Bool.and_false, Bool.false_and])
  | refine g_call (rightX_fun ((p.1.getD (Int.toNat t.1) tFn.dflt), t) t.2.2.2.2.2.2 (t.2.2.2.1.length : Int)) (fun h => nomatch h) ?_
  | (refine g_stop (RunN.keep [0, 1] (F2 (false :: true :: F2 (true :: F32 (F32 (F32 (F32 (F16 (F8 (F4 (F2 ([]))))))))))) n0 (by decide) rfl rfl ?_); have ht := check_r23 p t he; first | (simp only [end2F, backOk, *, if_true, if_false, Bool.false_eq_true, reduceCtorEq, Int.reduceEq, Int.reduceNeg, decide_true, decide_false, Bool.not_true, Bool.not_false, Bool.and_true, Bool.true_and, Bool.and_false, Bool.false_and]; exact ht) | (exfalso; simp_all; done) | (exfalso; omega))
  )
theorem check_r18 (p : EProg) (t : ETrace) (he : t.2.2.2.2.1.length ≤ 200) : Run Tryz.prog 32 (retQ Tryz.prog (.c (.int .i64 (end1F (p.1.getD (Int.toNat t.1) tFn.dflt, t) t)))) (rg (bodyOf Tryz.f32) 18) bCe4 (gCe1 t p) :=
 Run.roundA oc8 check_lv 3000 Tryz.func32 mixed (check_r18_R p t) (by kernel_rfl) (by
  unfold check_r18_R
  refine g_iteD (fun h0 => ?_) (fun h0 => ?_)
  ·refine g_call (bare_fun t.2.2.2.2.2.1) (fun h => nomatch h) ?_
   refine g_iteN (fun h1 => ?_) (fun h1 => ?_)
   ·refine g_iteN (fun h2 => ?_) (fun h2 => ?_)
    ·exact g_reti (by simp only [end1F, turnOk, h0, h1, h2, if_true, if_false, Bool.false_eq_true, reduceCtorEq, Int.reduceEq, Int.reduceNeg, decide_true, decide_false, Bool.not_true, Bool.not_false, Bool.and_true, Bool.true_and, Bool.and_false, Bool.false_and])
    ·refine g_stop (RunN.keep [0, 1] (F2 (false :: true :: F2 (true :: F32 (F32 (F32 (F32 (F16 (F8 (F4 (F2 ([]))))))))))) n0 (by decide) rfl rfl ?_)
     have ht := check_r21 p t he; first | (simp only [end1F, turnOk, h0, h1, h2, if_true, if_false, Bool.false_eq_true, reduceCtorEq, Int.reduceEq, Int.reduceNeg, decide_true, decide_false, Bool.not_true, Bool.not_false, Bool.and_true, Bool.true_and, Bool.and_false, Bool.false_and]; exact ht) | (exfalso; simp_all; done) | (exfalso; omega)
   ·refine g_iteD (fun h2 => ?_) (fun h2 => ?_)
    ·refine g_iteND (fun h3 => ?_) (fun h3 => ?_)
     ·exact g_reti (by simp_all [end1F, turnOk])
     ·refine g_call (rightX_fun ((p.1.getD (Int.toNat t.1) tFn.dflt), t) t.2.2.2.2.2.1 t.2.2.1) (fun h => nomatch h) ?_
      refine g_iteN (fun h4 => ?_) (fun h4 => ?_)
      ·exact g_reti (by simp_all [end1F, turnOk])
      ·refine g_stop (RunN.keep [0, 1] (F2 (false :: true :: F2 (true :: F32 (F32 (F32 (F32 (F16 (F8 (F4 (F2 ([]))))))))))) n0 (by decide) rfl rfl ?_)
       have ht := check_r21 p t he; first | (simp only [end1F, turnOk, h0, h1, h2, h3, h4, if_true, if_false, Bool.false_eq_true, reduceCtorEq, Int.reduceEq, Int.reduceNeg, decide_true, decide_false, Bool.not_true, Bool.not_false, Bool.and_true, Bool.true_and, Bool.and_false, Bool.false_and]; exact ht) | (exfalso; simp_all; done) | (exfalso; omega)
    ·refine g_stop (RunN.keep [0, 1] (F2 (false :: true :: F2 (true :: F32 (F32 (F32 (F32 (F16 (F8 (F4 (F2 ([]))))))))))) n0 (by decide) rfl rfl ?_)
     have ht := check_r21 p t he; first | (simp only [end1F, turnOk, h0, h1, h2, if_true, if_false, Bool.false_eq_true, reduceCtorEq, Int.reduceEq, Int.reduceNeg, decide_true, decide_false, Bool.not_true, Bool.not_false, Bool.and_true, Bool.true_and, Bool.and_false, Bool.false_and]; exact ht) | (exfalso; simp_all; done) | (exfalso; omega)
  ·refine g_iteD (fun h1 => ?_) (fun h1 => ?_)
   ·refine g_iteND (fun h2 => ?_) (fun h2 => ?_)
    ·exact g_reti (by simp only [end1F, turnOk, h0, h1, h2, if_true, if_false, Bool.false_eq_true, reduceCtorEq, Int.reduceEq, Int.reduceNeg, decide_true, decide_false, Bool.not_true, Bool.not_false, Bool.and_true, Bool.true_and, Bool.and_false, Bool.false_and])
    ·refine g_call (rightX_fun ((p.1.getD (Int.toNat t.1) tFn.dflt), t) t.2.2.2.2.2.1 t.2.2.1) (fun h => nomatch h) ?_
     refine g_iteN (fun h3 => ?_) (fun h3 => ?_)
     ·exact g_reti (by simp only [end1F, turnOk, h0, h1, h2, h3, if_true, if_false, Bool.false_eq_true, reduceCtorEq, Int.reduceEq, Int.reduceNeg, decide_true, decide_false, Bool.not_true, Bool.not_false, Bool.and_true, Bool.true_and, Bool.and_false, Bool.false_and])
     ·refine g_stop (RunN.keep [0, 1] (F2 (false :: true :: F2 (true :: F32 (F32 (F32 (F32 (F16 (F8 (F4 (F2 ([]))))))))))) n0 (by decide) rfl rfl ?_)
      have ht := check_r21 p t he; first | (simp only [end1F, turnOk, h0, h1, h2, h3, if_true, if_false, Bool.false_eq_true, reduceCtorEq, Int.reduceEq, Int.reduceNeg, decide_true, decide_false, Bool.not_true, Bool.not_false, Bool.and_true, Bool.true_and, Bool.and_false, Bool.false_and]; exact ht) | (exfalso; simp_all; done) | (exfalso; omega)
   ·refine g_stop (RunN.keep [0, 1] (F2 (false :: true :: F2 (true :: F32 (F32 (F32 (F32 (F16 (F8 (F4 (F2 ([]))))))))))) n0 (by decide) rfl rfl ?_)
    have ht := check_r21 p t he; first | (simp only [end1F, turnOk, h0, h1, if_true, if_false, Bool.false_eq_true, reduceCtorEq, Int.reduceEq, Int.reduceNeg, decide_true, decide_false, Bool.not_true, Bool.not_false, Bool.and_true, Bool.true_and, Bool.and_false, Bool.false_and]; exact ht) | (exfalso; simp_all; done) | (exfalso; omega)
  )
theorem check_l0 (p : EProg) (t : ETrace) (i : Nat) (hl : t.2.2.2.1.length ≤ 300) (he : t.2.2.2.2.1.length ≤ 200) : Run Tryz.prog 32 (retQ Tryz.prog (.c (.int .i64 (thenF (insF (p.1.getD (Int.toNat t.1) tFn.dflt, t) i (t.2.2.2.1.drop i)) (end1F (p.1.getD (Int.toNat t.1) tFn.dflt, t) t))))) (lp (bodyOf Tryz.f32) 0) (bCe2 t i) (gCe1 t p) :=
 Run.roundA oc8 check_lv 3000 Tryz.func32 mixed (check_l0_R p t i) (by kernel_rfl) (by
  unfold check_l0_R
  repeat' first
  | with_reducible refine g_iteD (fun h => ?_) (fun h => ?_)
  | with_reducible refine g_iteN (fun h => ?_) (fun h => ?_)
  | refine g_need (by first | (omega) | exact i64_iff.2 (by omega)) ?_
  | refine g_call (of__fun (t.2.2.2.1.getD i tIns.dflt).1) (fun h => nomatch h) ?_
  | (exact g_reti (by rw [dropCons (α := EIns) (Ty.dflt tIns) (by omega)]; simp only [insF, thenF, *, if_true, if_false, Int.reduceEq, reduceCtorEq]))
  | refine g_call (formed_fun ((p.1.getD (Int.toNat t.1) tFn.dflt), t) (ofF (t.2.2.2.1.getD i tIns.dflt).1).1 (t.2.2.2.1.getD i tIns.dflt) ((i : Nat) : Int) (ofF_asks _)) (fun h => nomatch h) ?_
  | (refine g_stop (RunN.keep [0, 1] (F2 (false :: true :: F2 (true :: F32 (F32 (F8 (F2 (true :: true :: true :: F32 (F32 (F16 (false :: [])))))))))) n0 (by decide) rfl rfl ?_); have := check_l0 p t (i + 1) hl he; rw [dropCons (α := EIns) (Ty.dflt tIns) (by omega)]; simp only [insF, *, if_true, if_false, reduceCtorEq]; exact this)
  | (refine g_stop (RunN.keep [0, 1] (F2 (false :: true :: F2 (true :: F32 (F32 (F32 (F32 (F16 (F8 (F4 (F2 ([]))))))))))) n0 (by decide) rfl rfl ?_); have ht := check_r18 p t he; rw [List.drop_eq_nil_of_le (by omega)]; exact ht)
  )
 termination_by t.2.2.2.1.length - i
 decreasing_by all_goals omega
theorem check_r8 (p : EProg) (t : ETrace) (h0 : 0 ≤ t.1 ∧ t.1 < p.1.length) (hl : t.2.2.2.1.length ≤ 300) (he : t.2.2.2.2.1.length ≤ 200) : Run Tryz.prog 32 (retQ Tryz.prog (.c (.int .i64 (bodyF (p.1.getD (Int.toNat t.1) tFn.dflt, t) t)))) (rg (bodyOf Tryz.f32) 8) gCe2 (gCe3 p t) :=
 Run.roundA oc8 check_lv 3000 Tryz.func32 mixed (check_r8_R p t) (by kernel_rfl) (by
  unfold check_r8_R
  refine g_need (by omega) ?_
  refine g_need (by omega) ?_
  refine g_stop (RunN.keep [1, 2] (F2 (false :: true :: F2 (true :: F32 (F32 (F8 (F2 (true :: true :: true :: F32 (F32 (F16 (false :: [])))))))))) n0 (by decide) rfl rfl ?_)
  have ht := check_l0 p t 0 hl he; exact ht
  )
theorem check_r4 (p : EProg) (t : ETrace)  : Run Tryz.prog 32 (retQ Tryz.prog (.c (.int .i64 (check4F p t)))) (rg (bodyOf Tryz.f32) 4) gCe2 (gCe3 p t) :=
 Run.roundA oc8 check_lv 3000 Tryz.func32 mixed (check_r4_R p t) (by kernel_rfl) (by
  unfold check_r4_R
  repeat' first
  | with_reducible refine g_iteD (fun h => ?_) (fun h => ?_)
  | refine g_need (by omega) ?_
  | exact g_reti (by simp only [check4F, sizeOk, headOk, *, if_true, if_false, Bool.false_eq_true, reduceCtorEq, Int.reduceEq, Int.reduceNeg, decide_true, decide_false, Bool.not_true, Bool.not_false, Bool.and_true, Bool.true_and, Bool.and_false, Bool.false_and])
  | (refine g_stop (RunN.keep [0, 1] (F2 (true :: true :: F32 (F32 (F32 (F32 (F32 (false :: []))))))) n0 (by decide) rfl rfl ?_); have ht := check_r8 p t (by omega) (by omega) (by omega); first | (simp only [check4F, sizeOk, headOk, *, if_true, if_false, Bool.false_eq_true, reduceCtorEq, Int.reduceEq, Int.reduceNeg, decide_true, decide_false, Bool.not_true, Bool.not_false, Bool.and_true, Bool.true_and, Bool.and_false, Bool.false_and]; exact ht) | (exfalso; simp_all; done) | (exfalso; omega))
  )
theorem check_fun (p : EProg) (t : ETrace) : AFun Tryz.prog 32 [.agg (tProg.enc p), .agg (tTrace.enc t)] (.c (.int .i64 (checkF p t))) :=
 AFun.of oc8 check_lv 3000 Tryz.func32 mixed rfl (by decide) (Nat.le_of_ble_eq_true rfl) (check_T p t) (by kernel_rfl) fun hF => by
  unfold check_T
  refine g_call (codeCheck_fun p) (fun h => nomatch h) ?_
  refine g_iteND (fun h0 => ?_) (fun h0 => ?_)
  ·exact g_reti (by simp only [checkF, h0, if_true, if_false])
  ·refine g_stop (RunN.keep [0, 1] (F2 (true :: true :: F32 (F32 (F32 (F32 (F32 (false :: []))))))) n0 (by decide) rfl rfl ?_)
   have ht := check_r4 p t; first | (simp only [checkF, h0, if_true, if_false, Bool.false_eq_true, reduceCtorEq, Int.reduceEq, Int.reduceNeg, decide_true, decide_false, Bool.not_true, Bool.not_false, Bool.and_true, Bool.true_and, Bool.and_false, Bool.false_and]; exact ht) | (exfalso; simp_all; done) | (exfalso; omega)

end Go.Proofs.YtkonkblfckhcbaaGreatDoor
namespace Go.Proofs.YtkonkblfckhcbaaGreatDoor
set_option linter.unusedVariables false
set_option linter.unusedSimpArgs false
set_option maxRecDepth 100000
def eqIF (a b : List Int) : Bool := decide (a = b)
theorem drop_eqI {a b : List Int} {i : Nat} (hl : a.length = b.length) (hi : i < a.length) : (a.drop i = b.drop i) ↔ (a.getD i (Ty.dflt tI) = b.getD i (Ty.dflt tI) ∧ a.drop (i + 1) = b.drop (i + 1)) := by
 rw [dropCons (l := a) (Ty.dflt tI) hi, dropCons (l := b) (Ty.dflt tI) (by omega), List.cons.injEq]
def eqI_lv : LV := ⟨(false :: true :: F8 (F2 (true :: true :: true :: F8 (F2 (false :: []))))), []⟩
noncomputable def eqI_T (a : List Int) (b : List Int) : Tree :=
 .ite ((!(decide ((a.length : Int) = (b.length : Int)))))
 (.ret (.c (.lit false)) [])
 (.stop (lp (bodyOf Tryz.f40) 0) (.junk :: .c (.ro tI b) :: J8 (J2 (.c (.ro tI a) :: .c (.int .i64 (a.length : Int)) :: .c (.int .i64 0) :: J8 (J2 (.junk :: []))))) [])
theorem eqI_T_ok (a : List Int) (b : List Int) : aRun Tryz.prog oc0 Tryz.f40 eqI_lv 3000 [.code (bodyOf Tryz.f40)] ([.c (.ro tI a), .c (.ro tI b)] ++ List.replicate (Func.ntmps Tryz.f40 - 2) .junk) [] = eqI_T a b := by kernel_rfl
noncomputable def eqI_l0_R (a : List Int) (b : List Int) (i : Nat) : Tree :=
 .ite (decide (((i : Nat) : Int) < (a.length : Int)))
 (.need ((0 : Int) ≤ ((i : Nat) : Int) ∧ (((i : Nat) : Int) : Int) < (a.length : Int)) <|
  .need (i < a.length) <|
  .need ((0 : Int) ≤ ((i : Nat) : Int) ∧ (((i : Nat) : Int) : Int) < (b.length : Int)) <|
  .need (i < b.length) <|
  .ite ((!(decide ((a.getD i tI.dflt) = (b.getD i tI.dflt)))))
  (.ret (.c (.lit false)) [])
  (.need (inR .i64 (((i : Nat) : Int) + 1)) <|
  .stop (lp (bodyOf Tryz.f40) 0) (.junk :: .c (.ro tI b) :: J8 (J2 (.c (.ro tI a) :: .c (.int .i64 (a.length : Int)) :: .c (.int .i64 (((i : Nat) : Int) + 1)) :: J8 (J2 (.junk :: []))))) []))
 (.ret (.c (.lit true)) [])
theorem eqI_l0_R_ok (a : List Int) (b : List Int) (i : Nat) : aRound Tryz.prog oc0 Tryz.f40 eqI_lv 3000 (lp (bodyOf Tryz.f40) 0) (.junk :: .c (.ro tI b) :: J8 (J2 (.c (.ro tI a) :: .c (.int .i64 (a.length : Int)) :: .c (.int .i64 ((i : Nat) : Int)) :: J8 (J2 (.junk :: []))))) [] = eqI_l0_R a b i := by kernel_rfl
theorem eqI_l0 (a : List Int) (b : List Int) (i : Nat) (hl : a.length = b.length) (hb : a.length ≤ 9223372036854775807) : Run Tryz.prog 40 (retQ Tryz.prog (.c (.bool (decide (a.drop i = b.drop i))))) (lp (bodyOf Tryz.f40) 0) (.junk :: .c (.ro tI b) :: J8 (J2 (.c (.ro tI a) :: .c (.int .i64 (a.length : Int)) :: .c (.int .i64 ((i : Nat) : Int)) :: J8 (J2 (.junk :: []))))) [] :=
 Run.roundA oc0 eqI_lv 3000 Tryz.func40 mixed (eqI_l0_R a b i) (eqI_l0_R_ok a b i) (by
  unfold eqI_l0_R
  refine g_iteD (fun h0 => ?_) (fun h0 => ?_)
  ·refine g_need (by omega) ?_
   refine g_need (by omega) ?_
   refine g_need (by omega) ?_
   refine g_need (by omega) ?_
   refine g_iteND (fun h1 => ?_) (fun h1 => ?_)
   ·exact g_retl (by symm; rw [decide_eq_false_iff_not, drop_eqI hl (by omega)]; exact fun q => h1 q.1)
   ·refine g_need (i64_iff.2 (by omega)) ?_
    refine g_stop (RunN.keep [] (false :: true :: F8 (F2 (true :: true :: true :: F8 (F2 (false :: []))))) n0 (by decide) rfl rfl ?_)
    have := eqI_l0 a b (i + 1) hl hb; have e : decide (a.drop i = b.drop i) = decide (a.drop (i + 1) = b.drop (i + 1)) := (by rw [decide_eq_decide, drop_eqI hl (by omega)]; exact ⟨fun q => q.2, fun q => ⟨h1, q⟩⟩); rw [e]; exact this
  ·exact g_retl (by rw [List.drop_eq_nil_of_le (by omega), List.drop_eq_nil_of_le (by omega)]; rfl)
  )
 termination_by a.length - i
 decreasing_by all_goals omega
theorem eqI_fun (a : List Int) (b : List Int) : AFun Tryz.prog 40 [.c (.ro tI a), .c (.ro tI b)] (.c (.bool (eqIF a b))) :=
 AFun.of oc0 eqI_lv 3000 Tryz.func40 mixed rfl (by decide) (Nat.le_of_ble_eq_true rfl) _ (eqI_T_ok a b) fun hF => by
  unfold eqI_T
  refine g_iteND (fun h0 => ?_) (fun h0 => ?_)
  ·exact g_retl (by symm; unfold eqIF; rw [decide_eq_false_iff_not]; intro q; exact h0 (by rw [q]))
  ·refine g_stop (RunN.keep [] (false :: true :: F8 (F2 (true :: true :: true :: F8 (F2 (false :: []))))) n0 (by decide) rfl rfl ?_)
   have := eqI_l0 a b 0 (by omega) hF.ro.1.1; exact this

noncomputable def oc9 : Orc where
 pure := fun f args => match f, args with
  | 41, [a0] => match dA tIns a0 with
   | some x0 => some (.c (.ro tI (askF x0)))
   | _ => none
  | 42, [a0] => match dA tI a0 with
   | some x0 => some (.c (.bool (tellF x0)))
   | _ => none
  | 40, [a0, a1] => match dA (.slice tI) a0, dA (.slice tI) a1 with
   | some x0, some x1 => some (.c (.bool (eqIF x0 x1)))
   | _, _ => none
  | _, _ => none
 heap := fun _ _ _ => none
def irred_lv : LV := ⟨([]), []⟩
noncomputable def irred_T  : Tree :=
 .call 41 [.agg [.int .i64 14, .int .i64 4, .int .i64 5, .int .i64 6, .int .i64 0, .int .i64 0, .int .i64 0, .int .i64 0]] false (.c (.ro tI (askF (14, (4, (5, (6, (0, (0, (0, 0)))))))))) <|
 .need (0 = 0 ∧ 3 = ([4, 5, 6]).length) <|
 .call 40 [.c (.ro tI (askF (14, (4, (5, (6, (0, (0, (0, 0))))))))), .c (.ro tI ([4, 5, 6]))] true (.c (.bool (eqIF (askF (14, (4, (5, (6, (0, (0, (0, 0)))))))) ([4, 5, 6])))) <|
 .ite (eqIF (askF (14, (4, (5, (6, (0, (0, (0, 0)))))))) ([4, 5, 6]))
 (.call 42 [.c (.int .i64 13)] false (.c (.bool (tellF 13))) <|
  .ite (tellF 13)
  (.call 42 [.c (.int .i64 11)] false (.c (.bool (tellF 11))) <|
  .ret (.c (.bool (!(tellF 11)))) [.vec 3 tI ([4, 5, 6])])
  (.ret (.c (.lit false)) [.vec 3 tI ([4, 5, 6])]))
 (.ret (.c (.lit false)) [.vec 3 tI ([4, 5, 6])])
theorem irred_T_ok  : aRun Tryz.prog oc9 Tryz.f17 irred_lv 3000 [.code (bodyOf Tryz.f17)] ([] ++ List.replicate (Func.ntmps Tryz.f17 - 0) .junk) [] = irred_T  := by kernel_rfl
theorem irred_fun  : AFun Tryz.prog 17 [] (.c (.bool (true))) :=
 AFun.of oc9 irred_lv 3000 Tryz.func17 mixed rfl (by decide) (Nat.le_of_ble_eq_true rfl) _ (irred_T_ok ) fun hF => by
  unfold irred_T
  refine g_call (asks_fun (14, (4, (5, (6, (0, (0, (0, 0)))))))) (fun h => nomatch h) ?_
  refine g_need (by decide) ?_
  refine g_call (eqI_fun (askF (14, (4, (5, (6, (0, (0, (0, 0)))))))) ([4, 5, 6])) (fun _ => rfl) ?_
  refine g_ite (fun h0 => ?_) (fun h0 => ?_)
  ·refine g_call (tells_fun 13) (fun h => nomatch h) ?_
   refine g_ite (fun h1 => ?_) (fun h1 => ?_)
   ·refine g_call (tells_fun 11) (fun h => nomatch h) ?_
    exact g_retb (by decide)
   ·exact g_retl (by exact absurd h1 (by decide))
  ·exact g_retl (by exact absurd h0 (by decide))

theorem insF_at {c : EChk} : ∀ {l : List EIns} {k : Nat}, insF c k l = 0 → ∀ (i : Nat) (x : EIns), l[i]? = some x → (ofF x.1).2 = true ∧ formedF c (ofF x.1).1 x (k + i : Nat) = true
 | [], k, _, i, x, hx => by simp at hx
 | y :: r, k, h, i, x, hx => by
  unfold insF at h
  split at h
  ·exact absurd h (by decide)
  ·split at h
   ·exact absurd h (by decide)
   ·rename_i h1 h2
    cases i with
    | zero =>
     simp at hx
     subst hx
     exact ⟨by simpa using h1, by simpa using h2⟩
    | succ i =>
     simp at hx
     have := insF_at h i x hx
     have e : k + 1 + i = k + (i + 1) := by omega
     rwa [e] at this
end Go.Proofs.YtkonkblfckhcbaaGreatDoor
namespace Go.Proofs.YtkonkblfckhcbaaGreatDoor
set_option linter.unusedVariables false
set_option linter.unusedSectionVars false
set_option linter.unusedSimpArgs false
open Go.RowKit

theorem leC.refl (c : CV) : leC c c := by cases c <;> simp [leC]
theorem leCs.refl : ∀ (l : List CV), leCs l l
 | [] => trivial
 | c :: r => ⟨leC.refl c, leCs.refl r⟩
theorem leA1.refl (a : A1) : leA1 a a := by
 cases a with
 | c c => exact leC.refl c
 | agg cs => exact leCs.refl cs
theorem leA1s.refl : ∀ (l : List A1), leA1s l l
 | [] => trivial
 | c :: r => ⟨leA1.refl c, leA1s.refl r⟩
theorem leAV.refl (a : AV) : leAV a a := by
 cases a with
 | junk => trivial
 | one a => exact leA1.refl a
 | tup l => exact leA1s.refl l
def leB : AB → AB → Prop
 | .dead, .dead => True
 | .dead, .ovec e t xs => xs = []
 | .vec e t xs, .ovec e' t' ys => e = e' ∧ (∃ h : t = t', h ▸ xs = ys) ∧ ys ≠ []
 | .ovec e t xs, .ovec e' t' ys => e = e' ∧ ∃ h : t = t', h ▸ xs = ys
 | .vec e t xs, .vec e' t' ys => e = e' ∧ ∃ h : t = t', h ▸ xs = ys
 | .cells e cs, .cells e' cs' => e = e' ∧ leCs cs cs'
 | .dead, .nest _ _ xs _ _ _ => xs = []
 | .ovec e t xs, .nest e' s ys ko _ hs => e = e' ∧ (∃ h : t = s.ty, h ▸ xs = ys) ∧ ((ko = some (0, 0) ∧ hs = []) ∨ ys = [])
 | .nest e s xs ko hi hs, .nest e' s' ys ko' hi' hs' => e = e' ∧ (∃ h : s = s', h ▸ xs = ys) ∧ (ko = ko' ∨ (ko = some (xs.length, 0) ∧ ko' = none)) ∧ hs = hs' ∧ (hi = hi' ∨ hs = [])
 | a, b => a = b
theorem leB.refl (a : AB) : leB a a := by
 cases a with
 | dead => trivial
 | cells e cs => exact ⟨rfl, leCs.refl cs⟩
 | vec e t xs => exact ⟨rfl, rfl, rfl⟩
 | ovec e t xs => exact ⟨rfl, rfl, rfl⟩
 | map k kt et n m => exact rfl
 | nest e s xs ko hi hs => exact ⟨rfl, ⟨rfl, rfl⟩, .inl rfl, rfl, .inl rfl⟩
def leHs : List AB → List AB → Prop
 | [], [] => True
 | a :: r, b :: s => leB a b ∧ leHs r s
 | _, _ => False
theorem leHs.refl : ∀ (l : List AB), leHs l l
 | [] => trivial
 | a :: r => ⟨leB.refl a, leHs.refl r⟩
/-- What it stands for says less. -/
def LeB (a b : AB) : Prop := (b ≠ .dead → a ≠ .dead) ∧ ∀ σ w k φ, Blk σ w k φ a → Blk σ w k φ b
theorem leB.to {a b : AB} (h : leB a b) : LeB (nrm a) (nrm b) := by
 have hE : ∀ {a b : AB}, a = b → LeB (nrm a) (nrm b) := fun h => by subst h; exact ⟨fun h => h, fun _ _ _ _ h => h⟩
 cases b with
 | dead => cases a <;> simp only [leB] at h <;> first | (exact hE rfl) | cases h
 | cells e cs =>
  cases a <;> simp only [leB] at h <;> try (cases h; done)
  case cells =>
   obtain ⟨rfl, h⟩ := h
   exact ⟨fun _ => by simp [nrm], fun σ w k _ ⟨c, hc, hcs⟩ => ⟨c, hc, leCs.to h hcs⟩⟩
 | vec e t xs =>
  cases a <;> simp only [leB] at h <;> try (cases h; done)
  case vec => obtain ⟨rfl, rfl, rfl⟩ := h; exact hE rfl
 | ovec e t xs =>
  cases a <;> simp only [leB] at h <;> try (cases h; done)
  case dead => subst h; exact hE (a := .dead) (b := .dead) rfl
  case vec =>
   obtain ⟨rfl, ⟨rfl, h⟩, hx⟩ := h
   subst h
   rw [nrm_ovec hx]
   exact hE (a := .vec ..) rfl
  case ovec => obtain ⟨rfl, rfl, rfl⟩ := h; exact hE rfl
 | map k kt et n m =>
  cases a <;> simp only [leB] at h <;> try (cases h; done)
  case map => exact hE h
 | nest e s ys ko hi hs =>
  cases a <;> simp only [leB] at h <;> try (cases h; done)
  case dead => subst h; exact hE (a := .dead) (b := .dead) rfl
  case ovec e0 t xs =>
   obtain ⟨rfl, ⟨rfl, h⟩, hk⟩ := h
   subst h
   cases xs with
   | nil => exact hE (a := .dead) (b := .dead) rfl
   | cons x r =>
    obtain ⟨rfl, rfl⟩ := hk.resolve_right (by simp)
    refine ⟨fun _ => by simp [nrm], fun σ w k φ ⟨c, h1, h2, h3⟩ => ⟨c, h1, h2, fun _ _ _ => False, fun _ _ _ h => h.elim, fun _ _ _ _ _ h => h.elim, fun i y hy => at_of_rd s (fun j _ => ?_) (h3 i y hy), fun j v y e' s' ys hv => by cases hv⟩⟩
    simp [mdOf, holeAt]
  case nest e0 s0 xs ko0 hi0 hs0 =>
   obtain ⟨rfl, ⟨rfl, h⟩, hk, rfl, hh⟩ := h
   subst h
   cases xs with
   | nil => exact hE (a := .dead) (b := .dead) rfl
   | cons x r =>
    refine ⟨fun _ => by simp [nrm], fun σ w k φ ⟨c, h1, h2, χ, h3, h4, h5, h6⟩ => ⟨c, h1, h2, χ, h3, h4, fun i y hy => ?_, fun j v y e' s' ys hv => ?_⟩⟩
    ·refine at_congr s0 (fun j _ => ⟨?_, fun _ h => h⟩) (h5 i y hy)
     have hl := (List.getElem?_eq_some_iff.1 hy).1
     have key : ∀ hi : Nat, mdOf ko0 hi hs0 i (0 + j) = mdOf ko hi hs0 i (0 + j) := fun hi => by
      unfold mdOf
      split
      ·rfl
      ·rcases hk with rfl | ⟨rfl, rfl⟩
       ·rfl
       ·simp only; rw [if_pos (.inl hl)]
     rcases hh with rfl | rfl
     ·exact key _
     ·rw [key hi0]; simp [mdOf, holeAt]
    ·rcases hh with rfl | rfl
     ·exact h6 j v y e' s' ys hv
     ·cases hv
theorem leHs.to : ∀ {H H' : List AB}, leHs H H' → H.length = H'.length ∧ ∀ b, LeB (gv H b) (gv H' b)
 | [], [], _ => ⟨rfl, fun b => ⟨fun h => h, fun _ _ _ _ h => h⟩⟩
 | a :: r, b :: s, h => by
  obtain ⟨h1, h2⟩ := leHs.to h.2
  refine ⟨by simp [h1], fun k => ?_⟩
  cases k with
  | zero => exact h.1.to
  | succ k => exact h2 k
 | [], _ :: _, h => h.elim
 | _ :: _, [], h => h.elim
theorem RelG.le {σ : Sg} {H H' : List AB} {w : World} (hr : RelG σ (gv H) w) (h : ∀ b, LeB (gv H b) (gv H' b)) : RelG σ (gv H') w where
 dom := fun b hb => hr.dom b ((h b).1 hb)
 blk := fun b hb => (h b).2 _ _ _ _ (hr.blk b ((h b).1 hb))
 injF := fun b b' hb hb' k e => hr.injF b b' ((h b).1 hb) ((h b').1 hb') k e
 outF := fun b hb => hr.outF b ((h b).1 hb)
 rlt := hr.rlt
 glob := hr.glob
 flt := fun b hb => hr.flt b ((h b).1 hb)
theorem Out.le {σ0 σ : Sg} {G0 : Nat → AB} {H H' : List AB} {W w : World} (ho : Out σ0 G0 W σ (gv H) w) (h : ∀ b, LeB (gv H b) (gv H' b)) : Out σ0 G0 W σ (gv H') w := ⟨ho.chg, ho.ext, fun b hb => ho.locF b ((h b).1 hb), ho.R⟩
/-- A state that says less. -/
theorem RunN.less {n0 : Nat} {P : Program} {f : FuncId} {Q : AV → List AB → Prop} {todo : List Item} {env env' : List AV} {H H' : List AB} (hE : leAVs env env') (hH : leHs H H') (h : RunN n0 P f Q todo env' H') : RunN n0 P f Q todo env H := fun σ0 G0 W b a w cs h0 h1 h2 h3 => by
 refine h σ0 G0 W b a w cs h0 h1 h2 ?_
 obtain ⟨σ, h3⟩ := h3
 obtain ⟨hl, hB⟩ := hH.to
 have hE := leAVs.to hE
 refine ⟨σ, fun b hb => by rw [← hl]; exact h3.D b hb, ⟨hE.1.symm.trans h3.env.1, fun t => ?_⟩, h3.rel.le hB, h3.out.le hB, h3.defers⟩
 by_cases ht : t < env.length
 ·have ht' : t < env'.length := by rw [← hE.1]; exact ht
  have h4 := h3.env.2 t
  rw [List.getD_eq_getElem?_getD, List.getElem?_eq_getElem ht] at h4
  rw [List.getD_eq_getElem?_getD, List.getElem?_eq_getElem ht']
  exact hE.2 t _ _ (List.getElem?_eq_getElem ht) (List.getElem?_eq_getElem ht') σ w _ h4
 ·rw [List.getD_eq_getElem?_getD, List.getElem?_eq_none (by rw [← hE.1]; omega)]; trivial
/-- Names, dropped and changed. -/
theorem keep_rel {n0 : Nat} {σ0 σ : Sg} {G0 : Nat → AB} {H : List AB} {W w : World} (gl : List Nat) (hn : ∀ k, k < n0 → gl[k]? = some k) (hnd : gl.Nodup) (h0 : ∀ k, σ0.D k → k < n0) (hr : RelG σ (gv H) w) (ho : Out σ0 G0 W σ (gv H) w) :
  RelG (renS gl σ) (gv (gl.map (fun b => renB gl (rgv H b)))) w ∧ Out σ0 G0 W (renS gl σ) (gv (gl.map (fun b => renB gl (rgv H b)))) w := by
 have gk : ∀ k, gv (gl.map (fun b => renB gl (rgv H b))) k ≠ .dead → k < gl.length ∧ gv H (gl.getD k 0) ≠ .dead ∧ gv (gl.map (fun b => renB gl (rgv H b))) k = renB gl (gv H (gl.getD k 0)) := fun k hk => by
  by_cases hl : k < gl.length
  ·have e : gv (gl.map (fun b => renB gl (rgv H b))) k = renB gl (gv H (gl.getD k 0)) := by
    rw [gv_rgv H, ← nrm_renB]
    refine gv_some ?_
    simp [List.getElem?_map, List.getElem?_eq_getElem hl, List.getD_eq_getElem?_getD]
   refine ⟨hl, fun hd => hk ?_, e⟩
   rw [e, hd]; rfl
  ·exact absurd (gv_none (by rw [List.getElem?_map, List.getElem?_eq_none (Nat.le_of_not_lt hl)]; rfl)) hk
 refine ⟨⟨fun b hb => ?_, fun b hb => ?_, fun b b' hb hb' q he he' => ?_, fun b hb q hq => ?_, hr.rlt, hr.glob, fun b hb => hr.flt _ (gk b hb).2.1⟩, ⟨ho.chg, ⟨fun k hk => ?_, ho.ext.R, ho.ext.keep, ho.ext.shape⟩, fun b hb q hq => ?_, ho.R⟩⟩
 ·obtain ⟨hl, hd, _⟩ := gk b hb
  exact ⟨hl, hr.dom _ hd⟩
 ·obtain ⟨hl, hd, e⟩ := gk b hb
  rw [e]
  exact renB_ok (hr.blk _ hd)
 ·obtain ⟨hl, hd, _⟩ := gk b hb
  obtain ⟨hl', hd', _⟩ := gk b' hb'
  have := hr.injF _ _ hd hd' q he he'
  rw [List.getD_eq_getElem?_getD, List.getD_eq_getElem?_getD, List.getElem?_eq_getElem hl, List.getElem?_eq_getElem hl'] at this
  have hp := List.pairwise_iff_getElem.1 hnd
  rcases Nat.lt_trichotomy b b' with h | h | h
  ·exact absurd this (hp b b' hl hl' h)
  ·exact h
  ·exact absurd this.symm (hp b' b hl' hl h)
 ·obtain ⟨hl, hd, _⟩ := gk b hb
  exact hr.outF _ hd q hq
 ·have hk0 := hn k (h0 k hk)
  obtain ⟨h4, h5⟩ := ho.ext.ι k hk
  have e : gl.getD k 0 = k := by simp [List.getD_eq_getElem?_getD, hk0]
  exact ⟨⟨(List.getElem?_eq_some_iff.1 hk0).1, by rw [e]; exact h4⟩, by simp only [renS, e]; exact h5⟩
 ·obtain ⟨hl, hd, _⟩ := gk b hb
  exact ho.locF _ hd q hq
/-- What such a function's end is to be: what it made to be read is given up; the result and the memory say no less. -/
def finQ (P : Program) (n0 : Nat) (r : AV) (Ht : List AB) (v : AV) (H : List AB) : Prop := Good P (fun _ _ _ => False) (fun v' H' => ∃ gl : List Nat, (∀ k, k < n0 → gl[k]? = some k) ∧ gl.Nodup ∧ leAV (renA gl v') r ∧ leHs (gl.map (fun b => renB gl (rgv H' b))) Ht) (frzA H v fun v' l => .ret v' (killL l H))
theorem RunN.fin {n0 : Nat} {P : Program} {f : FuncId} {r : AV} {H Ht : List AB} {todo : List Item} {env : List AV} (h : RunN n0 P f (finQ P n0 r Ht) todo env H) : RunN n0 P f (fun v H' => v = r ∧ H' = Ht) todo env H := fun σ0 G0 W b a w cs h0 h1 h2 h3 => by
 obtain ⟨v, w', fr, r1, H', σ', q1, q2, q3, q4, q5, q6, q7⟩ := h σ0 G0 W b a w cs h0 h1 h2 h3
 obtain ⟨v', l, ⟨gl, g1, g2, g3, g4⟩, hlt, hfz⟩ := frzA_ok q1
 have hs := Stp.frz (G' := gv (killL l H')) (l := l) q3 (fun b hb => gv_kill hb)
 have e : updG (gv H') l (gv (killL l H')) = gv (killL l H') := updG_gv fun b hb => gv_kill_off hb
 have hrel := hs.rel q3
 have hout := q4.step q3 hs
 rw [e] at hrel hout
 have hv' : CA (fSD σ' (gv H') l) w' v' v := (hfz σ' (gv H') w' v l (fun _ h => h) (fun _ _ => rfl) q3 (q5.ext fS_ext)).ext fSD_ext
 obtain ⟨k1, k2⟩ := keep_rel gl g1 g2 h0 hrel hout
 obtain ⟨hl, hB⟩ := g4.to
 refine ⟨v, w', fr, r, Ht, renS gl (fSD σ' (gv H') l), ⟨rfl, rfl⟩, fun n hn => ?_, k1.le hB, k2.le hB, g3.to _ _ _ (renA_ok hv'), q6, q7⟩
 rw [← hl]
 simpa using hn.1
section
variable {P : Program} {f : Nat} {fn : Func} {body : Code} {args : List AV} {r : AV} {H Ht : List AB}
theorem AFunH.of_run2 (hf : P.funcs[f]? = some fn) (hb : fn.body = some body) (hn : (fn.name == "runtime.NumGoroutine") = false) (hl : args.length ≤ fn.ntmps)
  (ha : args.map (renA (List.range H.length)) = args) (hH : (List.range H.length).map (fun b => renB (List.range H.length) (rgv H b)) = H) (hle : H.length ≤ Ht.length)
  (h : FactsH args H → RunN H.length P f (fun v H' => v = r ∧ H' = Ht) [.code body] (args ++ List.replicate (fn.ntmps - args.length) .junk) H) : AFunH P f args H r Ht (List.range Ht.length) where
 len := hle
 lt := fun b hb => by simpa using hb
 off := fun b hb => by
  have hb : Ht.length ≤ b := by simpa using hb
  rw [gv_none (List.getElem?_eq_none hb), gv_none (List.getElem?_eq_none (by omega))]
 act := fun σ w vs hrel hfr hv => by
  left
  refine ⟨enters_of hf hn hb _ _, ?_⟩
  have rg : ∀ k, k < H.length → (List.range H.length).getD k 0 = k := fun k hk => by simp [List.getD_eq_getElem?_getD, List.getElem?_range hk]
  have lt_of : ∀ b, gv H b ≠ .dead → b < H.length := fun b hb => by
   rcases Nat.lt_or_ge b H.length with h | h
   ·exact h
   ·exact absurd (gv_none (List.getElem?_eq_none h)) hb
  have hv1 : All2 (CA (renS (List.range H.length) σ) w) args vs := by
   rw [← ha]
   exact ⟨by simpa using hv.1, fun i x y hx hy => by
    rw [List.getElem?_map] at hx
    obtain ⟨q, hq, rfl⟩ := Option.map_eq_some_iff.1 hx
    exact renA_ok (hv.2 i q y hq hy)⟩
  have hB : ∀ b, b < H.length → renB (List.range H.length) (gv H b) = gv H b := fun b hb => by
   have := congrArg (·[b]?) hH
   simp only [List.getElem?_map, List.getElem?_range hb, Option.map_some] at this
   have e2 : H[b]? = some (rgv H b) := by simp [rgv, List.getD_eq_getElem?_getD, List.getElem?_eq_getElem hb]
   rw [e2] at this
   injection this with this
   rw [gv_rgv, ← nrm_renB, this]
  have rf : ∀ {k : Nat} (b : Nat), b < H.length → (renS (List.range H.length) σ).fp b k → σ.fp b k := fun b hb hk => by
   have hk : σ.fp ((List.range H.length).getD b 0) _ := hk
   rwa [rg b hb] at hk
  have hrel1 : RelG (renS (List.range H.length) σ) (gv H) w := ⟨fun b hb => ⟨by simpa using lt_of b hb, by rw [rg b (lt_of b hb)]; exact hrel.dom b hb⟩, fun b hb => by
   have h1 := renB_ok (gl := List.range H.length) (hrel.blk b hb)
   rw [hB b (lt_of b hb)] at h1
   show Blk _ w (σ.ι ((List.range H.length).getD b 0)) (σ.F ((List.range H.length).getD b 0)) _
   rw [rg b (lt_of b hb)]
   exact h1, fun b b' hb hb' k he he' => hrel.injF b b' hb hb' k (rf b (lt_of b hb) he) (rf b' (lt_of b' hb') he'), fun b hb k hk => hrel.outF b hb k (rf b (lt_of b hb) hk), hrel.rlt, hrel.glob, fun b hb k hk => hrel.flt b hb k (by have hk : σ.F ((List.range H.length).getD b 0) k := hk; rwa [rg b (lt_of b hb)] at hk)⟩
  refine (calls_enter (n0 := H.length) (σ0 := renS (List.range H.length) σ) (fun k hk => by simpa using hk.1) hf hb hl (fun b hb => by simpa using hb.1) hrel1 hv1 (h ⟨_, w, vs, hv, hrel⟩)).mono fun e w' ⟨v, r1, H', σ', he, ⟨e1, e2⟩, q2, q3, q4, q5⟩ => ⟨v, he, ?_⟩
  subst e1; subst e2
  let σ2 : Sg := ⟨fun k => if k < H'.length then σ'.ι k else σ.ι k, fun k => σ.D k ∨ k < H'.length, σ'.R, fun k => if k < H'.length then σ'.F k else σ.F k⟩
  have ιk : ∀ k, k < H'.length → σ2.ι k = σ'.ι k := fun k hk => by show (if k < H'.length then _ else _) = _; rw [if_pos hk]
  have Fk : ∀ k, k < H'.length → σ2.F k = σ'.F k := fun k hk => by show (if k < H'.length then _ else _) = _; rw [if_pos hk]
  have fk : ∀ {q : Nat} (k : Nat), k < H'.length → σ2.fp k q → σ'.fp k q := fun k hk hq => by
   unfold Sg.fp at hq ⊢
   rwa [ιk k hk, Fk k hk] at hq
  have hx : Ext σ' w' σ2 w' := ⟨fun k hk => ⟨.inr (q2 k hk), ιk k (q2 k hk)⟩, fun k hk => hk, fun _ _ _ => rfl, fun k c e fr h => ⟨c, fr, h, rfl⟩⟩
  have fp : ∀ k, fpAll (renS (List.range H.length) σ) (gv H) k → fpOf σ (gv H) (List.range H'.length) k := fun k ⟨b, hb, hk⟩ => ⟨b, by have := lt_of b hb; simp; omega, hb, rf b (lt_of b hb) hk⟩
  refine ⟨σ2, ⟨fun b => by simp [σ2], ⟨fun k hk => ⟨.inl hk, ?_⟩, q4.ext.R, q4.ext.keep, q4.ext.shape⟩, q4.chg.mono fp, fun b hb hd => ?_, fun b hb hd q hq => ?_, fun b hb b' hb' hd hd' q he he' => ?_, fun k hk => (q4.R k hk).imp id (Or.imp id (fp k)), fun b hb hd q hq => ?_, q3.rlt, fun b hb hd q hq => ?_, fun b hD hb => ?_⟩, q5.ext hx⟩
  ·rcases Nat.lt_or_ge k H'.length with hk1 | hk1
   ·rcases Nat.lt_or_ge k H.length with hk2 | hk2
    ·rw [ιk k hk1]
     have := (q4.ext.ι k ⟨by simpa using hk2, by rw [rg k hk2]; exact hk⟩).2
     rw [this]
     simp only [renS, rg k hk2]
    ·exact absurd hk (hfr k (by simpa using hk1) hk2)
   ·show (if k < H'.length then _ else _) = _
    rw [if_neg (by omega)]
  ·have hb1 : b < H'.length := by simpa using hb
   rw [ιk b hb1, Fk b hb1]
   exact (q3.blk _ hd).same hx rfl (fun _ _ => rfl)
  ·have hb1 : b < H'.length := by simpa using hb
   rcases q4.locF _ hd q (fk b hb1 hq) with h | h
   ·exact .inl (fp _ h)
   ·exact .inr h
  ·have hb1 : b < H'.length := by simpa using hb
   have hb2 : b' < H'.length := by simpa using hb'
   exact q3.injF _ _ hd hd' q (fk b hb1 he) (fk b' hb2 he')
  ·have hb1 : b < H'.length := by simpa using hb
   exact q3.outF _ hd q (fk b hb1 hq)
  ·have hb1 : b < H'.length := by simpa using hb
   rw [Fk b hb1] at hq
   exact q3.flt _ hd q hq
  ·show (if b < H'.length then _ else _) = _
   rw [if_neg (by simpa using hb)]
/-- By its abstract execution. -/
theorem AFunH.ofL (oc : Orc) (lv : LV) (n : Nat) (hf : P.funcs[f]? = some fn) (hm : P.follows .mixedOrders = true) (hb : fn.body = some body) (hn : (fn.name == "runtime.NumGoroutine") = false) (hl : args.length ≤ fn.ntmps)
  (ha : args.map (renA (List.range H.length)) = args) (hH : (List.range H.length).map (fun b => renB (List.range H.length) (rgv H b)) = H) (hle : H.length ≤ Ht.length) (T : Tree)
  (hT : aRun P oc fn lv n [.code body] (args ++ List.replicate (fn.ntmps - args.length) .junk) H = T)
  (h : FactsH args H → Good P (RunN H.length P f (finQ P H.length r Ht)) (finQ P H.length r Ht) T) : AFunH P f args H r Ht (List.range Ht.length) :=
 .of_run2 hf hb hn hl ha hH hle fun hF => RunN.fin (run_of hf hm n _ _ _ (by rw [hT]; exact h hF))
end
section
variable {P : Program} {S : List Item → List AV → List AB → Prop} {Q : AV → List AB → Prop}
theorem g_fin {n0 : Nat} {r : AV} {Ht : List AB} {v : AV} {H : List AB} (h : Good P (fun _ _ _ => False) (fun v' H' => ∃ gl : List Nat, (∀ k, k < n0 → gl[k]? = some k) ∧ gl.Nodup ∧ leAV (renA gl v') r ∧ leHs (gl.map (fun b => renB gl (rgv H' b))) Ht) (frzA H v fun v' l => .ret v' (killL l H))) : Good P S (finQ P n0 r Ht) (.ret v H) := h
theorem g_end {n0 : Nat} {r : AV} {Ht : List AB} {v : AV} {H : List AB} (gl : List Nat) (h1 : ∀ k, k < n0 → gl[k]? = some k) (h2 : gl.Nodup) (h3 : leAV (renA gl v) r) (h4 : leHs (gl.map (fun b => renB gl (rgv H b))) Ht) : Good P S (fun v' H' => ∃ gl : List Nat, (∀ k, k < n0 → gl[k]? = some k) ∧ gl.Nodup ∧ leAV (renA gl v') r ∧ leHs (gl.map (fun b => renB gl (rgv H' b))) Ht) (.ret v H) := ⟨gl, h1, h2, h3, h4⟩
end
theorem AFunH.frameB {P : Program} {f : Nat} {args args2 : List AV} {H H2 Ht H2' : List AB} {r r2 : AV} {wr2 : List Nat} (gl : List Nat) (h : AFunH P f args H r Ht (List.range Ht.length)) (hnd : decide gl.Nodup = true) (hlt : (gl.all fun b => Nat.blt b H2.length) = true)
  (hH : gl.map (rgv H2) = H.map (upB (gmap gl H2.length))) (ha : args2 = args.map (upA (gmap gl H2.length))) (hr : r2 = upA (gmap gl H2.length) r) (hH' : H2' = frameOut gl H2 Ht) (hw : wr2 = frameWr gl H2.length Ht.length) : AFunH P f args2 H2 r2 H2' wr2 :=
 h.frame gl (of_decide_eq_true hnd) (fun b hb => Nat.le_of_ble_eq_true (List.all_eq_true.1 hlt b hb)) hH ha hr hH' hw
theorem leAVs.same : ∀ {l l' : List AV}, l = l' → leAVs l l'
 | [], _, h => by subst h; trivial
 | a :: r, _, h => by subst h; exact ⟨leAV.refl a, leAVs.same rfl⟩
theorem leAVs.skip : ∀ (n : Nat) {l l' : List AV}, l.take n = l'.take n → leAVs (l.drop n) (l'.drop n) → leAVs l l'
 | 0, _, _, _, h => h
 | n + 1, [], [], _, h => h
 | n + 1, a :: r, b :: s, h, h' => by
  simp only [List.take_succ_cons, List.cons.injEq] at h
  obtain ⟨rfl, h⟩ := h
  exact ⟨leAV.refl a, leAVs.skip n h h'⟩
 | n + 1, [], b :: s, h, _ => by simp at h
 | n + 1, a :: r, [], h, _ => by simp at h
/-! what a callee's memory is, in its caller's -/
def ovecAs (e : TypeId) (t : Ty) : Option AB → Option (List t.El)
 | some (.ovec e' t' xs) => if h : t' = t then (if Nat.beq e' e then some (h ▸ xs) else none) else none
 | _ => none
def vecAs (e : TypeId) (t : Ty) : Option AB → Option (List t.El)
 | some (.vec e' t' xs) => if h : t' = t then (if Nat.beq e' e then some (h ▸ xs) else none) else none
 | _ => none
def cellsAs (e : TypeId) : Option AB → Option (List CV)
 | some (.cells e' cs) => if Nat.beq e' e then some cs else none
 | _ => none
def dC (t : Ty) (c : CV) : Option t.El := match t.dec [c] with
 | some (x, []) => some x
 | _ => none
def hres (gl : List Nat) (H : List AB) (r : AV) (Ht : List AB) : Option (AV × List AB × List Nat) := some (upA (gmap gl H.length) r, frameOut gl H Ht, frameWr gl H.length Ht.length)
end Go.Proofs.YtkonkblfckhcbaaGreatDoor
namespace Go.Proofs.YtkonkblfckhcbaaGreatDoor
set_option maxHeartbeats 4000000
set_option linter.unusedVariables false
set_option linter.unusedSimpArgs false
set_option maxRecDepth 100000
def dP {α β : Type} (a : DecidableEq α) (b : DecidableEq β) : DecidableEq (α × β) := @instDecidableEqProd α β a b
def dI : DecidableEq Int := inferInstance
def dL {α : Type} (a : DecidableEq α) : DecidableEq (List α) := @instDecidableEqList α a
instance decVal : DecidableEq EVal := dP dI dI
instance decIns : DecidableEq EIns := dP dI (dP dI (dP dI (dP dI (dP dI (dP dI decVal)))))
instance decMake : DecidableEq EMake := dP dI (dP dI (dP dI (dL dI)))
instance decExit : DecidableEq EExit := dP dI (dP dI (dP (dL decVal) (dL decMake)))
instance decTrace : DecidableEq ETrace := dP dI (dP dI (dP dI (dP (dL decIns) (dP (dL decExit) (dP decExit decExit)))))
theorem drop_eqD {α : Type} (d : α) {a b : List α} {i : Nat} (hl : a.length = b.length) (hi : i < a.length) : (a.drop i = b.drop i) ↔ (a.getD i d = b.getD i d ∧ a.drop (i + 1) = b.drop (i + 1)) := by
 rw [dropCons (l := a) d hi, dropCons (l := b) d (by omega), List.cons.injEq]
end Go.Proofs.YtkonkblfckhcbaaGreatDoor
namespace Go.Proofs.YtkonkblfckhcbaaGreatDoor
set_option linter.unusedVariables false
set_option linter.unusedSectionVars false
set_option linter.unusedSimpArgs false
open Go.RowKit
/-- A row of an element, by its place. -/
def Sk.setSl : (s : Sk) → s.ty.El → Nat → TypeId → (s' : Sk) → List s'.ty.El → Option s.ty.El
 | .slice e s, _, 0, e', s', ys => if h : e' = e ∧ s' = s then some (h.2 ▸ ys) else none
 | .pair a b, x, j, e, u, ys => if j < a.ty.sz then (match a.setSl x.1 j e u ys with
  | some y => some (y, x.2)
  | none => none) else (match b.setSl x.2 (j - a.ty.sz) e u ys with
  | some y => some (x.1, y)
  | none => none)
 | _, _, _, _, _, _ => none
theorem setSl_ok (s : Sk) : ∀ {x y : s.ty.El} {j : Nat} {e : TypeId} {u : Sk} {ys : List u.ty.El}, s.setSl x j e u ys = some y → s.slot y j = .sl e u ys ∧ ∀ p, p ≠ j → s.slot y p = s.slot x p := by
 induction s with
 | pair a b iha ihb =>
  intro x y j e u ys h
  simp only [Sk.setSl] at h
  split at h
  ·rename_i hj
   split at h
   ·rename_i z hz
    injection h with h
    subst h
    obtain ⟨h1, h3⟩ := iha hz
    refine ⟨by simp only [Sk.slot]; rw [if_pos hj]; exact h1, fun p hp => ?_⟩
    simp only [Sk.slot]
    split
    ·exact h3 p hp
    ·rfl
   ·cases h
  ·rename_i hj
   split at h
   ·rename_i z hz
    injection h with h
    subst h
    obtain ⟨h1, h3⟩ := ihb hz
    refine ⟨by simp only [Sk.slot]; rw [if_neg hj]; exact h1, fun p hp => ?_⟩
    simp only [Sk.slot]
    split
    ·rfl
    ·exact h3 _ (by omega)
   ·cases h
 | slice e0 s0 _ =>
  intro x y j e u ys h
  cases j with
  | succ j => cases h
  | zero =>
   simp only [Sk.setSl] at h
   split at h
   ·rename_i hh
    obtain ⟨h1, h2⟩ := hh
    subst h1; subst h2
    injection h with h
    subst h
    exact ⟨rfl, fun p hp => by cases p with
     | zero => exact absurd rfl hp
     | succ p => rfl⟩
   ·cases h
 | _ => intro x y j e u ys h; cases j <;> cases h
theorem setSl_was (s : Sk) : ∀ {x y : s.ty.El} {j : Nat} {e : TypeId} {u : Sk} {ys : List u.ty.El}, s.setSl x j e u ys = some y → ∃ e0 s0 ys0, s.slot x j = .sl e0 s0 ys0 := by
 induction s with
 | pair a b iha ihb =>
  intro x y j e u ys h
  simp only [Sk.setSl] at h
  simp only [Sk.slot]
  split at h
  ·rename_i hj
   rw [if_pos hj]
   split at h
   ·rename_i z hz; exact iha hz
   ·cases h
  ·rename_i hj
   rw [if_neg hj]
   split at h
   ·rename_i z hz; exact ihb hz
   ·cases h
 | slice e0 s0 _ =>
  intro x y j e u ys h
  cases j with
  | succ j => cases h
  | zero => exact ⟨_, _, _, rfl⟩
 | _ => intro x y j e u ys h; cases j <;> cases h
theorem noSl_ok (s : Sk) : ∀ {x : s.ty.El} {o n p : Nat} {e' : TypeId} {s' : Sk} {ys : List s'.ty.El}, s.noSl o n = true → o ≤ p → p < o + n → s.slot x p ≠ .sl e' s' ys := by
 induction s with
 | pair a b iha ihb =>
  intro x o n p e' s' ys h h1 h2
  simp only [Sk.noSl, Bool.and_eq_true] at h
  simp only [Sk.slot]
  split
  ·exact iha h.1 h1 h2
  ·rename_i hp
   exact ihb h.2 (by omega) (by omega)
 | slice e s _ =>
  intro x o n p e' s' ys h h1 h2
  simp only [Sk.noSl, Bool.not_eq_true', Bool.and_eq_false_iff] at h
  cases p with
  | succ p => simp [Sk.slot]
  | zero =>
   obtain rfl : o = 0 := by omega
   rcases h with h | h
   ·simp at h
   ·have h : Nat.blt 0 n = false := h
    have : ¬ 0 < n := by
     intro hn
     have h' : Nat.blt 0 n = true := Eq.mpr Nat.blt_eq hn
     rw [h] at h'; cases h'
    omega
 | _ => intro x o n p e' s' ys h h1 h2; cases p <;> simp [Sk.slot]
/-- A place with no row asks nobody whose it is. -/
theorem Pos.any {σ : Sg} {w : World} {m m' : Md} {v : Value} {φ φ' : Nat → Prop} {p : Slot} (hp : ∀ e s ys, p ≠ .sl e s ys) (h : Pos σ w m v φ p) : Pos σ w m' v φ' p := by
 cases p with
 | cv c => exact h
 | sl e s ys => exact absurd rfl (hp e s ys)
 | no => exact h.elim
theorem flat_at {R : Nat → Prop} {w : World} (s : Sk) : s.flat = true → ∀ {md : Nat → Md} {o : Nat} {x : s.ty.El} {cs : List Value} {ψ : Nat → Nat → Prop}, s.ty.rd.K R w x cs → s.At R w md o x cs ψ := by
 induction s with
 | pair a b iha ihb =>
  intro h md o x cs ψ hA
  simp only [Sk.flat, Bool.and_eq_true] at h
  obtain ⟨c0, c1, rfl, h0, h1⟩ := hA
  have l0 : c0.length = a.ty.sz := by rw [← a.ty.rd_sz]; exact a.ty.rd.len h0
  have ht : (c0 ++ c1).take a.ty.sz = c0 := by rw [← l0]; simp
  have hd : (c0 ++ c1).drop a.ty.sz = c1 := by rw [← l0]; simp
  refine ⟨?_, ?_⟩
  ·rw [ht]; exact iha h.1 h0
  ·rw [hd]; exact ihb h.2 h1
 | slice e s _ => intro h; cases h
 | int k => exact fun _ {_ _ _ _ _} hA => hA
 | bool => exact fun _ {_ _ _ _ _} hA => hA
 | str => exact fun _ {_ _ _ _ _} hA => hA
 | ro e => exact fun _ {_ _ _ _ _} hA => hA
theorem holeAt_del_other {j j' : Nat} (hj : j' ≠ j) : ∀ (hs : List (Nat × CV)), holeAt (holeDel hs j) j' = holeAt hs j'
 | [] => rfl
 | p :: r => by
  unfold holeDel
  split
  ·rename_i h
   have h := Nat.eq_of_beq_eq_true h
   simp only [holeAt]
   rw [if_neg (by rw [h]; simpa using hj.symm)]
  ·simp only [holeAt]
   split
   ·rfl
   ·exact holeAt_del_other hj r
/-- Each place at most once. -/
def oneHole : List (Nat × CV) → Bool
 | [] => true
 | p :: r => (holeAt r p.1).isNone && oneHole r
theorem holeAt_del_self {j : Nat} : ∀ (hs : List (Nat × CV)), oneHole hs = true → holeAt (holeDel hs j) j = none
 | [], _ => rfl
 | p :: r, h => by
  simp only [oneHole, Bool.and_eq_true] at h
  unfold holeDel
  split
  ·rename_i hp
   have hp := Nat.eq_of_beq_eq_true hp
   rw [← hp]
   simpa using h.1
  ·rename_i hp
   simp only [holeAt]
   rw [if_neg hp]
   exact holeAt_del_self r h.2
/-- The row that a name stands for. -/
def SubIs (B : AB) (e : TypeId) (s : Sk) (ys : List s.ty.El) : Prop := (s.flat = true ∧ B = .ovec e s.ty ys) ∨ ∃ hi, B = .nest e s ys none hi []
/-- How far an element's rows are its holder's own. -/
def koTo (s : Sk) (ko ko' : Option (Nat × Nat)) (hi j : Nat) : Prop := (ko = none ∧ ko' = none) ∨ ∃ o, ko = some (hi, o) ∧ o ≤ j ∧ s.noSl o (j - o) = true ∧ (ko' = some (hi, j + 1) ∨ (ko' = some (hi + 1, 0) ∧ s.noSl (j + 1) (s.ty.sz - (j + 1)) = true))
/-- A row that was named apart goes back to its holder. -/
inductive AbsStep : List AB → List AB → Prop
 | mk {H : List AB} (b m j hi n : Nat) (e e' : TypeId) (s s' : Sk) (xs : List s.ty.El) (ys : List s'.ty.El) (ko ko' : Option (Nat × Nat)) (hs : List (Nat × CV)) (B : AB) (x' : s.ty.El)
  (hb : H[b]? = some (.nest e s xs ko hi hs)) (hm : H[m]? = some B) (hB : SubIs B e' s' ys) (hbm : b ≠ m) (hh : holeAt hs j = some (.osl m s'.ty.sz n)) (ho : oneHole hs = true) (hn : n = ys.length) (hi' : hi < xs.length) (hx : s.setSl (xs.getD hi s.ty.dflt) j e' s' ys = some x') (hk : koTo s ko ko' hi j) :
  AbsStep H ((H.set m .dead).set b (.nest e s (xs.set hi x') ko' hi (holeDel hs j)))
 | nil {H : List AB} (b j hi : Nat) (e e' : TypeId) (s s' : Sk) (xs : List s.ty.El) (ko ko' : Option (Nat × Nat)) (hs : List (Nat × CV)) (x' : s.ty.El)
  (hb : H[b]? = some (.nest e s xs ko hi hs)) (hh : holeAt hs j = some .nilsl) (ho : oneHole hs = true) (hi' : hi < xs.length) (hx : s.setSl (xs.getD hi s.ty.dflt) j e' s' [] = some x') (hk : koTo s ko ko' hi j) :
  AbsStep H (H.set b (.nest e s (xs.set hi x') ko' hi (holeDel hs j)))
theorem abs_core {σ : Sg} {w : World} {G G' : Nat → AB} {b j hi : Nat} {e e' : TypeId} {s s' : Sk} {xs : List s.ty.El} {ys : List s'.ty.El} {ko ko' : Option (Nat × Nat)} {hs : List (Nat × CV)} {x' : s.ty.El} {wr : List Nat} {fm : Nat → Prop} {u : Value} {c : Array Value}
  (hr : RelG σ G w) (hG : G b = .nest e s xs ko hi hs) (ho : oneHole hs = true) (hi' : hi < xs.length) (hx' : s.setSl xs[hi] j e' s' ys = some x') (hko : koTo s ko ko' hi j)
  (gb' : G' b = .nest e s (xs.set hi x') ko' hi (holeDel hs j)) (hbw : b ∈ wr) (hdead : ∀ k ∈ wr, k ≠ b → G' k = .dead) (h1 : w.heap[σ.ι b]? = some (.cells c e (0, 0))) (hu : ((c.toList.drop (hi * s.ty.sz)).take s.ty.sz)[j]? = some u) (hown : OwnSl σ.R w e' s' ys u fm)
  (fm_b : ∀ z, fm z → σ.fp b z → False) (fm_wr : ∀ z, fm z → fpOf σ G wr z) (fm_c : ∀ z, fm z → IsC w z) : ∃ σ', Stp σ G w wr G' σ' w := by
 have hne : G b ≠ .dead := by rw [hG]; simp
 have hbk := hr.blk b hne
 rw [hG] at hbk
 obtain ⟨c0, h1', h2, χ, h3, h4, h5, h6⟩ := hbk
 rw [h1] at h1'
 injection h1' with h1'
 injection h1' with h1'
 subst h1'
 obtain ⟨s1, s2⟩ := setSl_ok s hx'
 have hpos := (at_iff s).1 (h5 hi xs[hi] (List.getElem?_eq_getElem hi'))
 obtain ⟨χ', hχ'⟩ : ∃ χ' : Nat → Nat → Nat → Prop, χ' = fun i j' z => if i = hi ∧ j' = j then fm z else χ i j' z := ⟨_, rfl⟩
 obtain ⟨σ', hσ'⟩ : ∃ σ' : Sg, σ' = ⟨σ.ι, fun k => σ.D k ∨ k ∈ wr, σ.R, fun k z => if k = b then σ.F b z ∨ fm z else σ.F k z⟩ := ⟨_, rfl⟩
 have ιι : σ'.ι = σ.ι := by rw [hσ']
 have Rr : σ'.R = σ.R := by rw [hσ']
 have Fb : σ'.F b = fun z => σ.F b z ∨ fm z := by rw [hσ']; funext z; simp
 have hx : Ext σ w σ' w := ⟨fun k hk => ⟨by rw [hσ']; exact .inl hk, by rw [ιι]⟩, fun _ h => by rw [Rr]; exact h, fun _ _ _ => rfl, fun k c e fr h => ⟨c, fr, h, rfl⟩⟩
 have only : ∀ k, k ∈ wr → G' k ≠ .dead → k = b := fun k hk hd => by
  by_cases h : k = b
  ·exact h
  ·exact absurd (hdead k hk h) hd
 have sub : ∀ z, σ'.fp b z → σ.fp b z ∨ fm z := fun z hz => by
  rcases hz with hz | hz
  ·rw [ιι] at hz; exact .inl (.inl hz)
  ·rw [Fb] at hz; exact hz.imp .inr id
 have fpo : ∀ z, σ'.fp b z → fpOf σ G wr z := fun z hz => by
  rcases sub z hz with h | h
  ·exact ⟨b, hbw, hne, h⟩
  ·exact fm_wr z h
 refine ⟨σ', fun k => by rw [hσ'], hx, Chg.refl _ _, fun k hk hd => ?_, fun k hk hd z hz => ?_, fun k hk k' hk' hd hd' z hz hz' => ?_, fun k h => .inl (Rr ▸ h), fun k hk hd z hz hR => ?_, fun k hk => hr.rlt k (Rr ▸ hk), fun k hk hd z hz => ?_, fun k hD hk => ?_⟩
 ·obtain rfl := only k hk hd
  rw [gb', ιι, Fb]
  refine ⟨c, h1, by rw [List.length_set]; exact h2, χ', fun i j' z hz => ?_, fun i1 j1 i2 j2 z a1 a2 => ?_, fun i y hy => ?_, fun j' v y e2 s2' ys2 hv hy hsl' => ?_⟩
  ·rw [hχ'] at hz
   split at hz
   ·exact ⟨.inr hz, fun h0 => fm_b z hz (.inl h0.symm)⟩
   ·exact ⟨.inl (h3 i j' z hz).1, (h3 i j' z hz).2⟩
  ·rw [hχ'] at a1 a2
   split at a1
   ·rename_i g1
    split at a2
    ·rename_i g2; exact ⟨g1.1.trans g2.1.symm, g1.2.trans g2.2.symm⟩
    ·exact (fm_b z a1 (.inr (h3 _ _ _ a2).1)).elim
   ·split at a2
    ·exact (fm_b z a2 (.inr (h3 _ _ _ a1).1)).elim
    ·exact h4 _ _ _ _ _ a1 a2
  ·rw [Rr]
   by_cases hii : i = hi
   ·subst hii
    rw [List.getElem?_set_self hi'] at hy
    injection hy with hy
    subst hy
    refine (at_iff (σ := σ) s).2 ⟨hpos.1, fun p v hv => ?_⟩
    rw [Nat.zero_add]
    by_cases hp : p = j
    ·subst hp
     have hm1 : mdOf ko' i (holeDel hs p) i p = .own := by
      unfold mdOf
      rw [if_neg (by rw [holeAt_del_self hs ho]; simp)]
      rcases hko with ⟨_, rfl⟩ | ⟨o, _, _, _, rfl | ⟨rfl, _⟩⟩
      ·rfl
      ·simp only; rw [if_pos (by first | (simp; done) | (simp; omega) | omega)]
      ·simp only; rw [if_pos (by first | (simp; done) | (simp; omega) | omega)]
     have hc1 : χ' i p = fm := by rw [hχ']; funext z; simp
     rw [hm1, hc1, s1]
     rw [hu] at hv
     injection hv with hv
     rw [← hv]
     exact hown
    ·have h0 := hpos.2 p v hv
     rw [Nat.zero_add] at h0
     rw [s2 p hp]
     have hc1 : χ' i p = χ i p := by rw [hχ']; funext z; simp [hp]
     rw [hc1]
     by_cases hps : ∃ e s' ys, s.slot xs[i] p = .sl e s' ys
     ·have hm1 : mdOf ko' i (holeDel hs j) i p = mdOf ko i hs i p := by
       obtain ⟨e3, s3, ys3, hsl3⟩ := hps
       unfold mdOf
       rw [holeAt_del_other hp]
       split
       ·rfl
       ·rcases hko with ⟨rfl, rfl⟩ | ⟨o, rfl, g1, g2, g3⟩
        ·rfl
        ·have ho1 : p < o ∨ j < p := by
          rcases Nat.lt_or_ge p o with g | g
          ·exact .inl g
          ·rcases Nat.lt_or_ge j p with g' | g'
           ·exact .inr g'
           ·exact absurd hsl3 (noSl_ok s g2 g (by omega))
         have hpl : p < s.ty.sz := by
          have := (List.getElem?_eq_some_iff.1 hv).1
          rw [hpos.1] at this; exact this
         rcases g3 with rfl | ⟨rfl, g3⟩
         ·simp only
          by_cases hpo : p < o
          ·rw [if_pos (by first | (simp; done) | (simp; omega) | omega), if_pos (by first | (simp; done) | (simp; omega) | omega)]
          ·rw [if_neg (by first | (simp; done) | (simp; omega) | omega), if_neg (by first | (simp; done) | (simp; omega) | omega)]
         ·simp only
          rcases ho1 with hpo | hpo
          ·rw [if_pos (by first | (simp; done) | (simp; omega) | omega), if_pos (by first | (simp; done) | (simp; omega) | omega)]
          ·exact absurd hsl3 (noSl_ok s g3 hpo (by omega))
      rw [hm1]; exact h0
     ·exact h0.any fun e3 s3 ys3 h => hps ⟨e3, s3, ys3, h⟩
   ·rw [List.getElem?_set_ne (fun h => hii h.symm)] at hy
    refine at_congr s (fun p _ => ⟨?_, fun z hz => ?_⟩) (h5 i y hy)
    ·unfold mdOf
     rw [if_neg (show ¬ (i = hi ∧ _) from fun h => hii h.1), if_neg (show ¬ (i = hi ∧ _) from fun h => hii h.1)]
     rcases hko with ⟨rfl, rfl⟩ | ⟨o, rfl, _, _, rfl | ⟨rfl, _⟩⟩
     ·rfl
     ·simp only
      by_cases hlt : i < hi
      ·rw [if_pos (by first | (simp; done) | (simp; omega) | omega), if_pos (by first | (simp; done) | (simp; omega) | omega)]
      ·rw [if_neg (by first | (simp; done) | (simp; omega) | omega), if_neg (by first | (simp; done) | (simp; omega) | omega)]
     ·simp only
      by_cases hlt : i < hi
      ·rw [if_pos (by first | (simp; done) | (simp; omega) | omega), if_pos (by first | (simp; done) | (simp; omega) | omega)]
      ·rw [if_neg (by first | (simp; done) | (simp; omega) | omega), if_neg (by first | (simp; done) | (simp; omega) | omega)]
    ·rw [hχ']; simp only; rw [if_neg (fun h => hii h.1)]; exact hz
  ·rw [List.getElem?_set_self hi'] at hy
   injection hy with hy
   subst hy
   by_cases hp : j' = j
   ·subst hp
    rw [holeAt_del_self hs ho] at hv; cases hv
   ·rw [holeAt_del_other hp] at hv
    rw [s2 j' hp] at hsl'
    obtain ⟨u', hu', hc'⟩ := h6 j' v _ _ _ _ hv (List.getElem?_eq_getElem hi') hsl'
    exact ⟨u', hu', hc'.ext hx⟩
 ·obtain rfl := only k hk hd
  exact .inl (fpo z hz)
 ·rw [only k hk hd, only k' hk' hd']
 ·obtain rfl := only k hk hd
  rw [Rr] at hR
  obtain ⟨q, _, hq, hz⟩ := fpo z hz
  exact hr.outF q hq z hz hR
 ·obtain rfl := only k hk hd
  rw [Fb] at hz
  rcases hz with hz | hz
  ·exact hr.flt k hne z hz
  ·exact fm_c z hz
 ·rw [hσ']
  funext z
  simp only
  rw [if_neg (fun h : k = b => hk (h ▸ hbw))]
theorem abs_stp {H H' : List AB} (h : AbsStep H H') : ∃ wr, (∀ b ∈ wr, b < H.length) ∧ H'.length = H.length ∧ (∀ b, b ∉ wr → gv H' b = gv H b) ∧ ∀ (σ : Sg) (w : World), RelG σ (gv H) w → ∃ σ', Stp σ (gv H) w wr (gv H') σ' w := by
 cases h with
 | nil b j hi e e' s s' xs ko ko' hs x' hb hh ho hi' hx' hko =>
  have hxe : xs ≠ [] := by rintro rfl; exact absurd hi' (Nat.not_lt_zero _)
  have gb : gv H b = .nest e s xs ko hi hs := gv_nest hb hxe
  have gb' : gv (H.set b (.nest e s (xs.set hi x') ko' hi (holeDel hs j))) b = .nest e s (xs.set hi x') ko' hi (holeDel hs j) := by
   rw [gv_set (lt_of_get hb)]
   exact nrm_nest (by intro h0; exact hxe (by have := congrArg List.length h0; simp at this; exact this))
  refine ⟨[b], one_lt hb, by simp, fun k hk => gv_set_off hk, fun σ w hr => ?_⟩
  have hne : gv H b ≠ .dead := by rw [gb]; simp
  have hbk := hr.blk b hne
  rw [gb] at hbk
  obtain ⟨c, h1, h2, χ, h3, h4, h5, h6⟩ := hbk
  rw [getD_el _ hi'] at hx'
  obtain ⟨e0, s0, ys0, hsl0⟩ : ∃ e0 s0 ys0, s.slot xs[hi] j = .sl e0 s0 ys0 := setSl_was s hx'
  obtain ⟨u, hu, hcu⟩ := h6 j _ _ _ _ _ hh (List.getElem?_eq_getElem hi') hsl0
  have hcu : u = .slice none 0 0 := hcu
  exact abs_core (fm := fun _ => False) hr gb ho hi' hx' hko gb' (by simp) (fun k hk hn => absurd (by simpa using hk) hn) h1 hu (.inl ⟨rfl, none, hcu⟩) (fun _ h _ => h) (fun _ h => h.elim) (fun _ h => h.elim)
 | mk b m j hi n e e' s s' xs ys ko ko' hs B x' hb hm hB hbm hh ho hn hi' hx' hko =>
  have hbl := lt_of_get hb
  have hml := lt_of_get hm
  have hxe : xs ≠ [] := by rintro rfl; exact absurd hi' (Nat.not_lt_zero _)
  have gb : gv H b = .nest e s xs ko hi hs := gv_nest hb hxe
  have gm : gv H m = nrm B := gv_some hm
  have gb' : gv ((H.set m .dead).set b (.nest e s (xs.set hi x') ko' hi (holeDel hs j))) b = .nest e s (xs.set hi x') ko' hi (holeDel hs j) := by
   rw [gv_set (by rw [List.length_set]; exact hbl)]
   exact nrm_nest (by intro h0; exact hxe (by have := congrArg List.length h0; simp at this; exact this))
  have gm' : gv ((H.set m .dead).set b (.nest e s (xs.set hi x') ko' hi (holeDel hs j))) m = .dead := by
   rw [gv_set_off (by simp; exact fun h => hbm h.symm)]
   exact gv_set hml
  refine ⟨[b, m], fun k hk => by simp at hk; omega, by simp, fun k hk => ?_, fun σ w hr => ?_⟩
  ·simp at hk
   rw [gv_set_off (by simp; exact hk.1), gv_set_off (by simp; exact hk.2)]
  have hne : gv H b ≠ .dead := by rw [gb]; simp
  have hbk := hr.blk b hne
  rw [gb] at hbk
  obtain ⟨c, h1, h2, χ, h3, h4, h5, h6⟩ := hbk
  rw [getD_el _ hi'] at hx'
  obtain ⟨s1, s2⟩ := setSl_ok s hx'
  obtain ⟨fm, hfm⟩ : ∃ fm : Nat → Prop, fm = fun z => gv H m ≠ .dead ∧ σ.fp m z := ⟨_, rfl⟩
  have fm_b : ∀ z, fm z → σ.fp b z → False := fun z hz hz' => by
   rw [hfm] at hz
   exact hbm (hr.injF b m hne hz.1 z hz' hz.2)
  have hpos := (at_iff s).1 (h5 hi xs[hi] (List.getElem?_eq_getElem hi'))
  -- the slot before
  obtain ⟨e0, s0, ys0, hsl0⟩ : ∃ e0 s0 ys0, s.slot xs[hi] j = .sl e0 s0 ys0 := setSl_was s hx'
  obtain ⟨u, hu, hcu⟩ := h6 j _ _ _ _ _ hh (List.getElem?_eq_getElem hi') hsl0
  have hown : OwnSl σ.R w e' s' ys u fm := by
   by_cases hy : ys = []
   ·subst hy
    subst hn
    obtain ⟨A, rfl⟩ := CC.osl_zero.1 hcu
    exact .inl ⟨rfl, A, rfl⟩
   ·have hn0 : n ≠ 0 := by rw [hn]; exact fun h0 => hy (List.eq_nil_of_length_eq_zero h0)
    obtain ⟨hD, hs0, cap, c1, e1, fr, rfl, k1, k2, k3, k4⟩ := (CC.osl_pos hn0).1 hcu
    rw [Nat.zero_add] at k4
    have hmd : gv H m ≠ .dead := by
     rw [gm]
     rcases hB with ⟨_, rfl⟩ | ⟨_, rfl⟩
     ·rw [nrm_ovec hy]; simp
     ·rw [nrm_nest hy]; simp
    have hmk := hr.blk m hmd
    rw [gm] at hmk
    have fm1 : fm (σ.ι m) := by rw [hfm]; exact ⟨hmd, .inl rfl⟩
    refine .inr ⟨hy, σ.ι m, cap, c1, by rw [Nat.zero_mul, hn], by rw [← hn]; exact k1, k2, hs0, ?_, k4, fm1, ?_⟩
    ·rcases hB with ⟨_, rfl⟩ | ⟨_, rfl⟩
     ·rw [nrm_ovec hy] at hmk
      obtain ⟨c2, q1, _⟩ := hmk
      rw [k3] at q1
      injection q1 with q1
      injection q1 with q1 q2 q3
      subst q2; subst q3
      exact k3
     ·rw [nrm_nest hy] at hmk
      obtain ⟨c2, q1, _⟩ := hmk
      rw [k3] at q1
      injection q1 with q1
      injection q1 with q1 q2 q3
      subst q2; subst q3
      exact k3
    ·rcases hB with ⟨hfl, rfl⟩ | ⟨hi2, rfl⟩
     ·rw [nrm_ovec hy] at hmk
      obtain ⟨c2, q1, q2, q3⟩ := hmk
      rw [k3] at q1
      injection q1 with q1
      injection q1 with q1
      subst q1
      exact ⟨fun _ _ _ => False, fun _ _ _ h => h.elim, fun _ _ _ _ _ h => h.elim, fun i y hi => flat_at s' hfl (q3 i y hi)⟩
     ·rw [nrm_nest hy] at hmk
      obtain ⟨c2, q1, q2, χ1, q3, q4, q5, _⟩ := hmk
      rw [k3] at q1
      injection q1 with q1
      injection q1 with q1
      subst q1
      refine ⟨χ1, fun i j k h => ⟨by rw [hfm]; exact ⟨hmd, .inr (q3 i j k h).1⟩, (q3 i j k h).2⟩, q4, fun i y hi => ?_⟩
      refine at_congr s' (fun p _ => ⟨?_, fun _ h => h⟩) (q5 i y hi)
      simp [mdOf, holeAt]
  refine abs_core (wr := [b, m]) hr gb ho hi' hx' hko gb' (by simp) (fun k hk hn => ?_) h1 hu hown fm_b (fun z hz => ?_) (fun z hz => ?_)
  ·simp at hk
   rcases hk with rfl | rfl
   ·exact absurd rfl hn
   ·exact gm'
  ·rw [hfm] at hz; exact ⟨m, by simp, hz.1, hz.2⟩
  ·rw [hfm] at hz
   obtain ⟨hmd, hz⟩ := hz
   rcases hz with hz | hz
   ·rw [← hz]
    have hmk := hr.blk m hmd
    rw [gm] at hmk hmd
    rcases hB with ⟨_, rfl⟩ | ⟨_, rfl⟩
    ·cases ys with
     | nil => exact absurd rfl hmd
     | cons y r => obtain ⟨c2, q1, _⟩ := hmk; exact ⟨_, _, _, q1⟩
    ·cases ys with
     | nil => exact absurd rfl hmd
     | cons y r => obtain ⟨c2, q1, _⟩ := hmk; exact ⟨_, _, _, q1⟩
   ·exact hr.flt m hmd z hz
inductive AbsStar : List AB → List AB → Prop
 | refl (H : List AB) : AbsStar H H
 | step {H H1 H2 : List AB} (h : AbsStep H H1) (h' : AbsStar H1 H2) : AbsStar H H2
/-- At a state: some rows go back. -/
theorem RunN.abs {n0 : Nat} {P : Program} {f : FuncId} {Q : AV → List AB → Prop} {todo : List Item} {env : List AV} {H H' : List AB} (ha : AbsStar H H') : RunN n0 P f Q todo env H' → RunN n0 P f Q todo env H := by
 induction ha with
 | refl H => exact id
 | step h _ ih =>
  intro hR
  have hR := ih hR
  intro σ0 G0 W b a w cs h0 h1 h2 ⟨σ, h3⟩
  obtain ⟨wr, hw, hl, hoff, hst⟩ := abs_stp h
  obtain ⟨σ', hs⟩ := hst σ w h3.rel
  refine hR σ0 G0 W b a w cs h0 h1 h2 ⟨σ', fun k hk => ?_, h3.env.ext hs.ext, ?_, ?_, h3.defers.stp h3.rel hs⟩
  ·rw [hl]
   rcases (hs.D k).1 hk with hk | hk
   ·exact h3.D k hk
   ·exact hw k hk
  ·have := hs.rel h3.rel
   rwa [updG_gv hoff] at this
  ·have := h3.out.step h3.rel hs
   rwa [updG_gv hoff] at this
/-- An end behind which some rows go back. -/
def absQ (Q : AV → List AB → Prop) (v : AV) (H : List AB) : Prop := ∃ H', AbsStar H H' ∧ Q v H'
theorem RunN.unabs {n0 : Nat} {P : Program} {f : FuncId} {Q : AV → List AB → Prop} {todo : List Item} {env : List AV} {H : List AB} (h : RunN n0 P f (absQ Q) todo env H) : RunN n0 P f Q todo env H := fun σ0 G0 W b a w cs h0 h1 h2 h3 => by
 obtain ⟨v, w', fr, r, H1, σ', ⟨H2, ha, hq⟩, q2, q3, q4, q5, q6, q7⟩ := h σ0 G0 W b a w cs h0 h1 h2 h3
 have key : ∃ σ2, (∀ n, σ2.D n → n < H2.length) ∧ RelG σ2 (gv H2) w' ∧ Out σ0 G0 W σ2 (gv H2) w' ∧ CA σ2 w' r v := by
  clear hq q6 q7 h h3
  induction ha generalizing σ' with
  | refl H => exact ⟨σ', q2, q3, q4, q5⟩
  | step h _ ih =>
   obtain ⟨wr, hw, hl, hoff, hst⟩ := abs_stp h
   obtain ⟨σ1, hs⟩ := hst σ' w' q3
   refine ih σ1 (fun k hk => ?_) ?_ ?_ (q5.ext hs.ext)
   ·rw [hl]
    rcases (hs.D k).1 hk with hk | hk
    ·exact q2 k hk
    ·exact hw k hk
   ·have := hs.rel q3
    rwa [updG_gv hoff] at this
   ·have := q4.step q3 hs
    rwa [updG_gv hoff] at this
 obtain ⟨σ2, k1, k2, k3, k4⟩ := key
 exact ⟨v, w', fr, r, H2, σ2, hq, k1, k2, k3, k4, q6, q7⟩
section
variable {P : Program} {f : Nat} {fn : Func} {body : Code} {args : List AV} {r : AV} {H Ht : List AB}
theorem AFunH.ofLA (oc : Orc) (lv : LV) (n : Nat) (hf : P.funcs[f]? = some fn) (hm : P.follows .mixedOrders = true) (hb : fn.body = some body) (hn : (fn.name == "runtime.NumGoroutine") = false) (hl : args.length ≤ fn.ntmps)
  (ha : args.map (renA (List.range H.length)) = args) (hH : (List.range H.length).map (fun b => renB (List.range H.length) (rgv H b)) = H) (hle : H.length ≤ Ht.length) (T : Tree)
  (hT : aRun P oc fn lv n [.code body] (args ++ List.replicate (fn.ntmps - args.length) .junk) H = T)
  (h : FactsH args H → Good P (RunN H.length P f (absQ (finQ P H.length r Ht))) (absQ (finQ P H.length r Ht)) T) : AFunH P f args H r Ht (List.range Ht.length) :=
 .of_run2 hf hb hn hl ha hH hle fun hF => RunN.fin (RunN.unabs (run_of hf hm n _ _ _ (by rw [hT]; exact h hF)))
/-- A block as a row of rows of one's own. -/
def nestAs (e : TypeId) (s : Sk) : Option AB → Option (List s.ty.El)
 | some (.nest e' s' xs none 0 []) => if h : s' = s then (if Nat.beq e' e then some (h ▸ xs) else none) else none
 | _ => none
theorem g_abs {P : Program} {S : List Item → List AV → List AB → Prop} {Q : AV → List AB → Prop} {v : AV} {H H' : List AB} (ha : AbsStar H H') (h : Good P S Q (.ret v H')) : Good P S (absQ Q) (.ret v H) := ⟨H', ha, h⟩
end
theorem CC.osl_le {σ : Sg} {w : World} {b s n : Nat} {v : Value} (h : CC σ w (.osl b s n) v) : n ≤ 9223372036854775807 := by
 by_cases hn : n = 0
 ·omega
 ·obtain ⟨_, _, cap, _, _, _, _, h1, h2, _⟩ := (CC.osl_pos hn).1 h
  omega
theorem FactsH.osl {args : List AV} {H : List AB} {i b s n : Nat} (h : FactsH args H) (hi : args[i]? = some (.c (.osl b s n))) : n ≤ 9223372036854775807 := by
 obtain ⟨σ, w, v, h⟩ := h.arg hi
 exact CC.osl_le h
theorem FactsH.int {args : List AV} {H : List AB} {i : Nat} {k : IntKind} {n : Int} (h : FactsH args H) (hi : args[i]? = some (.c (.int k n))) : inR k n := by
 obtain ⟨σ, w, v, h⟩ := h.arg hi
 exact h.2
theorem FactsH.cell {args : List AV} {H : List AB} {b i : Nat} {e : TypeId} {cs : List CV} {c : CV} (h : FactsH args H) (hb : H[b]? = some (.cells e cs)) (hi : cs[i]? = some c) : ∃ σ w v, CC σ w c v := by
 obtain ⟨σ, w, vs, _, hr⟩ := h
 have hg : gv H b = .cells e cs := gv_of hb
 have hB := hr.blk b (by rw [hg]; simp)
 rw [hg] at hB
 obtain ⟨d, _, hcs⟩ := hB
 obtain ⟨y, _, hy⟩ := hcs.get hi
 exact ⟨σ, w, y, hy⟩
end Go.Proofs.YtkonkblfckhcbaaGreatDoor
namespace Go.Proofs.YtkonkblfckhcbaaGreatDoor
set_option maxHeartbeats 4000000
set_option linter.unusedVariables false
set_option linter.unusedSimpArgs false
set_option maxRecDepth 100000
abbrev tFrame : Ty := .pair tI (.pair tI (.pair tI (.pair tI (.pair tVal (.pair (.slice tVal) (.slice tVal))))))
abbrev tCell : Ty := .pair tI (.pair tI (.pair (.slice tVal) (.slice tFrame)))
abbrev tThread : Ty := .pair (.slice tFrame) (.pair tI (.pair tI tVal))
abbrev tEnd : Ty := .pair tI tVal
abbrev tState : Ty := .pair (.slice tCell) (.pair (.slice tVal) (.pair (.slice .str) (.pair (.slice tThread) (.pair (.slice tEnd) (.pair (.slice tVal) (.pair tI tI))))))
abbrev EFrame := Int × Int × Int × Int × EVal × List EVal × List EVal
abbrev ECell := Int × Int × List EVal × List EFrame
abbrev EThread := List EFrame × Int × Int × EVal
abbrev EEnd := Int × EVal
abbrev EState := List ECell × List EVal × List ByteArray × List EThread × List EEnd × List EVal × Int × Int
instance decFrame : DecidableEq EFrame := dP dI (dP dI (dP dI (dP dI (dP decVal (dP (dL decVal) (dL decVal))))))
instance decCell : DecidableEq ECell := dP dI (dP dI (dP (dL decVal) (dL decFrame)))
instance decThread : DecidableEq EThread := dP (dL decFrame) (dP dI (dP dI decVal))
instance decEnd : DecidableEq EEnd := dP dI decVal
instance decState : DecidableEq EState := dP (dL decCell) (dP (dL decVal) (dP (dL (inferInstanceAs (DecidableEq ByteArray))) (dP (dL decThread) (dP (dL decEnd) (dP (dL decVal) (dP dI dI))))))
def qqVal_lv : LV := ⟨(true :: true :: F8 (F2 (true :: true :: F8 (F4 ([]))))), []⟩
noncomputable def qqVal_T (a : List EVal) (b : List EVal) : Tree :=
 .ite ((!(decide ((a.length : Int) = (b.length : Int)))))
 (.ret (.c (.lit false)) [])
 (.stop (lp (bodyOf Tryz.f48) 0) (.c (.ro tVal a) :: .c (.ro tVal b) :: J8 (J2 (.c (.int .i64 (a.length : Int)) :: .c (.int .i64 0) :: J8 (J4 ([]))))) [])
noncomputable def qqVal_l0_R (a : List EVal) (b : List EVal) (i : Nat) : Tree :=
 .ite (decide (((i : Nat) : Int) < (a.length : Int)))
 (.need ((0 : Int) ≤ ((i : Nat) : Int) ∧ (((i : Nat) : Int) : Int) < (a.length : Int)) <|
  .need (i < a.length) <|
  .need ((0 : Int) ≤ ((i : Nat) : Int) ∧ (((i : Nat) : Int) : Int) < (b.length : Int)) <|
  .need (i < b.length) <|
  .ite ((!(decide ((a.getD i tVal.dflt).1 = (b.getD i tVal.dflt).1) && (decide ((a.getD i tVal.dflt).2 = (b.getD i tVal.dflt).2) && true))))
  (.ret (.c (.lit false)) [])
  (.need (inR .i64 (((i : Nat) : Int) + 1)) <|
  .stop (lp (bodyOf Tryz.f48) 0) (.c (.ro tVal a) :: .c (.ro tVal b) :: J8 (J2 (.c (.int .i64 (a.length : Int)) :: .c (.int .i64 (((i : Nat) : Int) + 1)) :: J8 (J4 ([]))))) []))
 (.ret (.c (.lit true)) [])
theorem qqVal_l0 (a : List EVal) (b : List EVal) (i : Nat) (hl : a.length = b.length) (hb : a.length ≤ 9223372036854775807) : Run Tryz.prog 48 (retQ Tryz.prog (.c (.bool (decide (a.drop i = b.drop i))))) (lp (bodyOf Tryz.f48) 0) (.c (.ro tVal a) :: .c (.ro tVal b) :: J8 (J2 (.c (.int .i64 (a.length : Int)) :: .c (.int .i64 ((i : Nat) : Int)) :: J8 (J4 ([]))))) [] :=
 Run.roundA oc0 qqVal_lv 3000 Tryz.func48 mixed (qqVal_l0_R a b i) (by kernel_rfl) (by
  unfold qqVal_l0_R
  refine g_iteD (fun h0 => ?_) (fun h0 => ?_)
  ·refine g_need (by omega) ?_
   refine g_need (by omega) ?_
   refine g_need (by omega) ?_
   refine g_need (by omega) ?_
   refine g_iteN (fun h1 => ?_) (fun h1 => ?_)
   ·exact g_retl (by symm; rw [decide_eq_false_iff_not, drop_eqD (Ty.dflt tVal) hl (by omega)]; intro q; rw [q.1] at h1; simp at h1)
   ·refine g_need (i64_iff.2 (by omega)) ?_
    refine g_stop (RunN.keep [] (true :: true :: F8 (F2 (true :: true :: F8 (F4 ([]))))) n0 (by decide) rfl rfl ?_)
    have := qqVal_l0 a b (i + 1) hl hb; have e : decide (a.drop i = b.drop i) = decide (a.drop (i + 1) = b.drop (i + 1)) := (by rw [decide_eq_decide, drop_eqD (Ty.dflt tVal) hl (by omega)]; exact ⟨fun q => q.2, fun q => ⟨(by simp at h1; exact Prod.ext h1.1 h1.2), q⟩⟩); rw [e]; exact this
  ·exact g_retl (by rw [List.drop_eq_nil_of_le (by omega), List.drop_eq_nil_of_le (by omega)]; rfl)
  )
 termination_by a.length - i
 decreasing_by all_goals omega
theorem qqVal_fun (a : List EVal) (b : List EVal) : AFun Tryz.prog 48 [.c (.ro tVal a), .c (.ro tVal b)] (.c (.bool (decide (a = b)))) :=
 AFun.of oc0 qqVal_lv 3000 Tryz.func48 mixed rfl (by decide) (Nat.le_of_ble_eq_true rfl) (qqVal_T a b) (by kernel_rfl) fun hF => by
  unfold qqVal_T
  refine g_iteND (fun h0 => ?_) (fun h0 => ?_)
  ·exact g_retl (by symm; rw [decide_eq_false_iff_not]; intro q; exact h0 (by rw [q]))
  ·refine g_stop (RunN.keep [] (true :: true :: F8 (F2 (true :: true :: F8 (F4 ([]))))) n0 (by decide) rfl rfl ?_)
   have := qqVal_l0 a b 0 (by omega) hF.ro.1.1; exact this

def qqShape_lv : LV := ⟨(true :: true :: F8 (F2 (true :: true :: F8 (F4 ([]))))), []⟩
noncomputable def qqShape_T (a : List EVal) (b : List EVal) : Tree :=
 .ite ((!(decide ((a.length : Int) = (b.length : Int)))))
 (.ret (.c (.lit false)) [])
 (.stop (lp (bodyOf Tryz.f50) 0) (.c (.ro tVal a) :: .c (.ro tVal b) :: J8 (J2 (.c (.int .i64 (a.length : Int)) :: .c (.int .i64 0) :: J8 (J4 ([]))))) [])
noncomputable def qqShape_l0_R (a : List EVal) (b : List EVal) (i : Nat) : Tree :=
 .ite (decide (((i : Nat) : Int) < (a.length : Int)))
 (.need ((0 : Int) ≤ ((i : Nat) : Int) ∧ (((i : Nat) : Int) : Int) < (a.length : Int)) <|
  .need (i < a.length) <|
  .need ((0 : Int) ≤ ((i : Nat) : Int) ∧ (((i : Nat) : Int) : Int) < (b.length : Int)) <|
  .need (i < b.length) <|
  .ite ((!(decide ((a.getD i tVal.dflt).1 = (b.getD i tVal.dflt).1) && (decide ((a.getD i tVal.dflt).2 = (b.getD i tVal.dflt).2) && true))))
  (.ret (.c (.lit false)) [])
  (.need (inR .i64 (((i : Nat) : Int) + 1)) <|
  .stop (lp (bodyOf Tryz.f50) 0) (.c (.ro tVal a) :: .c (.ro tVal b) :: J8 (J2 (.c (.int .i64 (a.length : Int)) :: .c (.int .i64 (((i : Nat) : Int) + 1)) :: J8 (J4 ([]))))) []))
 (.ret (.c (.lit true)) [])
theorem qqShape_l0 (a : List EVal) (b : List EVal) (i : Nat) (hl : a.length = b.length) (hb : a.length ≤ 9223372036854775807) : Run Tryz.prog 50 (retQ Tryz.prog (.c (.bool (decide (a.drop i = b.drop i))))) (lp (bodyOf Tryz.f50) 0) (.c (.ro tVal a) :: .c (.ro tVal b) :: J8 (J2 (.c (.int .i64 (a.length : Int)) :: .c (.int .i64 ((i : Nat) : Int)) :: J8 (J4 ([]))))) [] :=
 Run.roundA oc0 qqShape_lv 3000 Tryz.func50 mixed (qqShape_l0_R a b i) (by kernel_rfl) (by
  unfold qqShape_l0_R
  refine g_iteD (fun h0 => ?_) (fun h0 => ?_)
  ·refine g_need (by omega) ?_
   refine g_need (by omega) ?_
   refine g_need (by omega) ?_
   refine g_need (by omega) ?_
   refine g_iteN (fun h1 => ?_) (fun h1 => ?_)
   ·exact g_retl (by symm; rw [decide_eq_false_iff_not, drop_eqD (Ty.dflt tVal) hl (by omega)]; intro q; rw [q.1] at h1; simp at h1)
   ·refine g_need (i64_iff.2 (by omega)) ?_
    refine g_stop (RunN.keep [] (true :: true :: F8 (F2 (true :: true :: F8 (F4 ([]))))) n0 (by decide) rfl rfl ?_)
    have := qqShape_l0 a b (i + 1) hl hb; have e : decide (a.drop i = b.drop i) = decide (a.drop (i + 1) = b.drop (i + 1)) := (by rw [decide_eq_decide, drop_eqD (Ty.dflt tVal) hl (by omega)]; exact ⟨fun q => q.2, fun q => ⟨(by simp at h1; exact Prod.ext h1.1 h1.2), q⟩⟩); rw [e]; exact this
  ·exact g_retl (by rw [List.drop_eq_nil_of_le (by omega), List.drop_eq_nil_of_le (by omega)]; rfl)
  )
 termination_by a.length - i
 decreasing_by all_goals omega
theorem qqShape_fun (a : List EVal) (b : List EVal) : AFun Tryz.prog 50 [.c (.ro tVal a), .c (.ro tVal b)] (.c (.bool (decide (a = b)))) :=
 AFun.of oc0 qqShape_lv 3000 Tryz.func50 mixed rfl (by decide) (Nat.le_of_ble_eq_true rfl) (qqShape_T a b) (by kernel_rfl) fun hF => by
  unfold qqShape_T
  refine g_iteND (fun h0 => ?_) (fun h0 => ?_)
  ·exact g_retl (by symm; rw [decide_eq_false_iff_not]; intro q; exact h0 (by rw [q]))
  ·refine g_stop (RunN.keep [] (true :: true :: F8 (F2 (true :: true :: F8 (F4 ([]))))) n0 (by decide) rfl rfl ?_)
   have := qqShape_l0 a b 0 (by omega) hF.ro.1.1; exact this

def qqTry_lv : LV := ⟨(true :: true :: F8 (F2 (true :: true :: F8 (F4 ([]))))), []⟩
noncomputable def qqTry_T (a : List EVal) (b : List EVal) : Tree :=
 .ite ((!(decide ((a.length : Int) = (b.length : Int)))))
 (.ret (.c (.lit false)) [])
 (.stop (lp (bodyOf Tryz.f94) 0) (.c (.ro tVal a) :: .c (.ro tVal b) :: J8 (J2 (.c (.int .i64 (a.length : Int)) :: .c (.int .i64 0) :: J8 (J4 ([]))))) [])
noncomputable def qqTry_l0_R (a : List EVal) (b : List EVal) (i : Nat) : Tree :=
 .ite (decide (((i : Nat) : Int) < (a.length : Int)))
 (.need ((0 : Int) ≤ ((i : Nat) : Int) ∧ (((i : Nat) : Int) : Int) < (a.length : Int)) <|
  .need (i < a.length) <|
  .need ((0 : Int) ≤ ((i : Nat) : Int) ∧ (((i : Nat) : Int) : Int) < (b.length : Int)) <|
  .need (i < b.length) <|
  .ite ((!(decide ((a.getD i tVal.dflt).1 = (b.getD i tVal.dflt).1) && (decide ((a.getD i tVal.dflt).2 = (b.getD i tVal.dflt).2) && true))))
  (.ret (.c (.lit false)) [])
  (.need (inR .i64 (((i : Nat) : Int) + 1)) <|
  .stop (lp (bodyOf Tryz.f94) 0) (.c (.ro tVal a) :: .c (.ro tVal b) :: J8 (J2 (.c (.int .i64 (a.length : Int)) :: .c (.int .i64 (((i : Nat) : Int) + 1)) :: J8 (J4 ([]))))) []))
 (.ret (.c (.lit true)) [])
theorem qqTry_l0 (a : List EVal) (b : List EVal) (i : Nat) (hl : a.length = b.length) (hb : a.length ≤ 9223372036854775807) : Run Tryz.prog 94 (retQ Tryz.prog (.c (.bool (decide (a.drop i = b.drop i))))) (lp (bodyOf Tryz.f94) 0) (.c (.ro tVal a) :: .c (.ro tVal b) :: J8 (J2 (.c (.int .i64 (a.length : Int)) :: .c (.int .i64 ((i : Nat) : Int)) :: J8 (J4 ([]))))) [] :=
 Run.roundA oc0 qqTry_lv 3000 Tryz.func94 mixed (qqTry_l0_R a b i) (by kernel_rfl) (by
  unfold qqTry_l0_R
  refine g_iteD (fun h0 => ?_) (fun h0 => ?_)
  ·refine g_need (by omega) ?_
   refine g_need (by omega) ?_
   refine g_need (by omega) ?_
   refine g_need (by omega) ?_
   refine g_iteN (fun h1 => ?_) (fun h1 => ?_)
   ·exact g_retl (by symm; rw [decide_eq_false_iff_not, drop_eqD (Ty.dflt tVal) hl (by omega)]; intro q; rw [q.1] at h1; simp at h1)
   ·refine g_need (i64_iff.2 (by omega)) ?_
    refine g_stop (RunN.keep [] (true :: true :: F8 (F2 (true :: true :: F8 (F4 ([]))))) n0 (by decide) rfl rfl ?_)
    have := qqTry_l0 a b (i + 1) hl hb; have e : decide (a.drop i = b.drop i) = decide (a.drop (i + 1) = b.drop (i + 1)) := (by rw [decide_eq_decide, drop_eqD (Ty.dflt tVal) hl (by omega)]; exact ⟨fun q => q.2, fun q => ⟨(by simp at h1; exact Prod.ext h1.1 h1.2), q⟩⟩); rw [e]; exact this
  ·exact g_retl (by rw [List.drop_eq_nil_of_le (by omega), List.drop_eq_nil_of_le (by omega)]; rfl)
  )
 termination_by a.length - i
 decreasing_by all_goals omega
theorem qqTry_fun (a : List EVal) (b : List EVal) : AFun Tryz.prog 94 [.c (.ro tVal a), .c (.ro tVal b)] (.c (.bool (decide (a = b)))) :=
 AFun.of oc0 qqTry_lv 3000 Tryz.func94 mixed rfl (by decide) (Nat.le_of_ble_eq_true rfl) (qqTry_T a b) (by kernel_rfl) fun hF => by
  unfold qqTry_T
  refine g_iteND (fun h0 => ?_) (fun h0 => ?_)
  ·exact g_retl (by symm; rw [decide_eq_false_iff_not]; intro q; exact h0 (by rw [q]))
  ·refine g_stop (RunN.keep [] (true :: true :: F8 (F2 (true :: true :: F8 (F4 ([]))))) n0 (by decide) rfl rfl ?_)
   have := qqTry_l0 a b 0 (by omega) hF.ro.1.1; exact this

def qqEnd_lv : LV := ⟨(true :: true :: F8 (F2 (true :: true :: F8 (F4 ([]))))), []⟩
noncomputable def qqEnd_T (a : List EEnd) (b : List EEnd) : Tree :=
 .ite ((!(decide ((a.length : Int) = (b.length : Int)))))
 (.ret (.c (.lit false)) [])
 (.stop (lp (bodyOf Tryz.f54) 0) (.c (.ro tEnd a) :: .c (.ro tEnd b) :: J8 (J2 (.c (.int .i64 (a.length : Int)) :: .c (.int .i64 0) :: J8 (J4 ([]))))) [])
noncomputable def qqEnd_l0_R (a : List EEnd) (b : List EEnd) (i : Nat) : Tree :=
 .ite (decide (((i : Nat) : Int) < (a.length : Int)))
 (.need ((0 : Int) ≤ ((i : Nat) : Int) ∧ (((i : Nat) : Int) : Int) < (a.length : Int)) <|
  .need (i < a.length) <|
  .need ((0 : Int) ≤ ((i : Nat) : Int) ∧ (((i : Nat) : Int) : Int) < (b.length : Int)) <|
  .need (i < b.length) <|
  .ite ((!(decide ((a.getD i tEnd.dflt).1 = (b.getD i tEnd.dflt).1) && ((decide ((a.getD i tEnd.dflt).2.1 = (b.getD i tEnd.dflt).2.1) && (decide ((a.getD i tEnd.dflt).2.2 = (b.getD i tEnd.dflt).2.2) && true)) && true))))
  (.ret (.c (.lit false)) [])
  (.need (inR .i64 (((i : Nat) : Int) + 1)) <|
  .stop (lp (bodyOf Tryz.f54) 0) (.c (.ro tEnd a) :: .c (.ro tEnd b) :: J8 (J2 (.c (.int .i64 (a.length : Int)) :: .c (.int .i64 (((i : Nat) : Int) + 1)) :: J8 (J4 ([]))))) []))
 (.ret (.c (.lit true)) [])
theorem qqEnd_l0 (a : List EEnd) (b : List EEnd) (i : Nat) (hl : a.length = b.length) (hb : a.length ≤ 9223372036854775807) : Run Tryz.prog 54 (retQ Tryz.prog (.c (.bool (decide (a.drop i = b.drop i))))) (lp (bodyOf Tryz.f54) 0) (.c (.ro tEnd a) :: .c (.ro tEnd b) :: J8 (J2 (.c (.int .i64 (a.length : Int)) :: .c (.int .i64 ((i : Nat) : Int)) :: J8 (J4 ([]))))) [] :=
 Run.roundA oc0 qqEnd_lv 3000 Tryz.func54 mixed (qqEnd_l0_R a b i) (by kernel_rfl) (by
  unfold qqEnd_l0_R
  refine g_iteD (fun h0 => ?_) (fun h0 => ?_)
  ·refine g_need (by omega) ?_
   refine g_need (by omega) ?_
   refine g_need (by omega) ?_
   refine g_need (by omega) ?_
   refine g_iteN (fun h1 => ?_) (fun h1 => ?_)
   ·exact g_retl (by symm; rw [decide_eq_false_iff_not, drop_eqD (Ty.dflt tEnd) hl (by omega)]; intro q; rw [q.1] at h1; simp at h1)
   ·refine g_need (i64_iff.2 (by omega)) ?_
    refine g_stop (RunN.keep [] (true :: true :: F8 (F2 (true :: true :: F8 (F4 ([]))))) n0 (by decide) rfl rfl ?_)
    have := qqEnd_l0 a b (i + 1) hl hb; have e : decide (a.drop i = b.drop i) = decide (a.drop (i + 1) = b.drop (i + 1)) := (by rw [decide_eq_decide, drop_eqD (Ty.dflt tEnd) hl (by omega)]; exact ⟨fun q => q.2, fun q => ⟨(by simp at h1; exact Prod.ext h1.1 (Prod.ext h1.2.1 h1.2.2)), q⟩⟩); rw [e]; exact this
  ·exact g_retl (by rw [List.drop_eq_nil_of_le (by omega), List.drop_eq_nil_of_le (by omega)]; rfl)
  )
 termination_by a.length - i
 decreasing_by all_goals omega
theorem qqEnd_fun (a : List EEnd) (b : List EEnd) : AFun Tryz.prog 54 [.c (.ro tEnd a), .c (.ro tEnd b)] (.c (.bool (decide (a = b)))) :=
 AFun.of oc0 qqEnd_lv 3000 Tryz.func54 mixed rfl (by decide) (Nat.le_of_ble_eq_true rfl) (qqEnd_T a b) (by kernel_rfl) fun hF => by
  unfold qqEnd_T
  refine g_iteND (fun h0 => ?_) (fun h0 => ?_)
  ·exact g_retl (by symm; rw [decide_eq_false_iff_not]; intro q; exact h0 (by rw [q]))
  ·refine g_stop (RunN.keep [] (true :: true :: F8 (F2 (true :: true :: F8 (F4 ([]))))) n0 (by decide) rfl rfl ?_)
   have := qqEnd_l0 a b 0 (by omega) hF.ro.1.1; exact this

noncomputable def ocJa : Orc where
 pure := fun f args => match f, args with
  | 48, [a0, a1] => match dA (.slice tVal) a0, dA (.slice tVal) a1 with
   | some x0, some x1 => some (.c (.bool (decide (x0 = x1))))
   | _, _ => none
  | 94, [a0, a1] => match dA (.slice tVal) a0, dA (.slice tVal) a1 with
   | some x0, some x1 => some (.c (.bool (decide (x0 = x1))))
   | _, _ => none
  | _, _ => none
 heap := fun _ _ _ => none
def qFrame_lv : LV := ⟨([]), []⟩
abbrev gJa0 (x : EFrame) (y : EFrame) : List AB := [.cells 61 (Ty.enc tFrame x), .cells 61 (Ty.enc tFrame y)]
noncomputable def qFrame_T (x : EFrame) (y : EFrame) : Tree :=
 .ite (decide (x.1 = y.1))
 (.ite (decide (x.2.1 = y.2.1))
  (.ite (decide (x.2.2.1 = y.2.2.1))
  (.ite (decide (x.2.2.2.1 = y.2.2.2.1))
   (.ite ((decide (x.2.2.2.2.1.1 = y.2.2.2.2.1.1) && (decide (x.2.2.2.2.1.2 = y.2.2.2.2.1.2) && true)))
   (.call 48 [.c (.ro tVal x.2.2.2.2.2.1), .c (.ro tVal y.2.2.2.2.2.1)] false (.c (.bool (decide (x.2.2.2.2.2.1 = y.2.2.2.2.2.1)))) <|
    .ite (decide (x.2.2.2.2.2.1 = y.2.2.2.2.2.1))
    (.call 94 [.c (.ro tVal x.2.2.2.2.2.2), .c (.ro tVal y.2.2.2.2.2.2)] false (.c (.bool (decide (x.2.2.2.2.2.2 = y.2.2.2.2.2.2)))) <|
    .ret (.c (.bool (decide (x.2.2.2.2.2.2 = y.2.2.2.2.2.2)))) (gJa0 x y))
    (.ret (.c (.lit false)) (gJa0 x y)))
   (.ret (.c (.lit false)) (gJa0 x y)))
   (.ret (.c (.lit false)) (gJa0 x y)))
  (.ret (.c (.lit false)) (gJa0 x y)))
  (.ret (.c (.lit false)) (gJa0 x y)))
 (.ret (.c (.lit false)) (gJa0 x y))
theorem qFrame_fun (x : EFrame) (y : EFrame) : AFun Tryz.prog 93 [.agg (tFrame.enc x), .agg (tFrame.enc y)] (.c (.bool (decide (x = y)))) :=
 AFun.of ocJa qFrame_lv 3000 Tryz.func93 mixed rfl (by decide) (Nat.le_of_ble_eq_true rfl) (qFrame_T x y) (by kernel_rfl) fun hF => by
  unfold qFrame_T
  repeat' first
  | with_reducible refine g_iteD (fun h => ?_) (fun h => ?_)
  | with_reducible refine g_ite (fun h => ?_) (fun h => ?_)
  | refine g_call (qqVal_fun x.2.2.2.2.2.1 y.2.2.2.2.2.1) (fun h => nomatch h) ?_
  | refine g_call (qqTry_fun x.2.2.2.2.2.2 y.2.2.2.2.2.2) (fun h => nomatch h) ?_
  | (exact g_retb (by rw [decide_eq_decide]; obtain ⟨a0, a1, a2, a3, ⟨a4, a5⟩, a6, a7⟩ := x; obtain ⟨b0, b1, b2, b3, ⟨b4, b5⟩, b6, b7⟩ := y; simp_all))
  | (exact g_retl (by symm; rw [decide_eq_false_iff_not]; rintro rfl; simp_all))

noncomputable def ocJb : Orc where
 pure := fun f args => match f, args with
  | 93, [a0, a1] => match dA tFrame a0, dA tFrame a1 with
   | some x0, some x1 => some (.c (.bool (decide (x0 = x1))))
   | _, _ => none
  | _, _ => none
 heap := fun _ _ _ => none
def qqFrame_lv : LV := ⟨(false :: true :: true :: F8 (F4 (true :: true :: true :: F8 (F4 (F2 ([])))))), []⟩
noncomputable def qqFrame_T (a : List EFrame) (b : List EFrame) : Tree :=
 .ite ((!(decide ((a.length : Int) = (b.length : Int)))))
 (.ret (.c (.lit false)) [])
 (.stop (lp (bodyOf Tryz.f92) 0) (.junk :: .c (.ro tFrame b) :: .c (.fn0 93) :: J8 (J4 (.c (.ro tFrame a) :: .c (.int .i64 (a.length : Int)) :: .c (.int .i64 0) :: J8 (J4 (J2 ([])))))) [])
noncomputable def qqFrame_l0_R (a : List EFrame) (b : List EFrame) (i : Nat) : Tree :=
 .ite (decide (((i : Nat) : Int) < (a.length : Int)))
 (.need ((0 : Int) ≤ ((i : Nat) : Int) ∧ (((i : Nat) : Int) : Int) < (a.length : Int)) <|
  .need (i < a.length) <|
  .need ((0 : Int) ≤ ((i : Nat) : Int) ∧ (((i : Nat) : Int) : Int) < (b.length : Int)) <|
  .need (i < b.length) <|
  .call 93 [.agg (Ty.enc tFrame (a.getD i tFrame.dflt)), .agg (Ty.enc tFrame (b.getD i tFrame.dflt))] false (.c (.bool (decide ((a.getD i tFrame.dflt) = (b.getD i tFrame.dflt))))) <|
  .ite ((!(decide ((a.getD i tFrame.dflt) = (b.getD i tFrame.dflt)))))
  (.ret (.c (.lit false)) [.cells 61 (Ty.enc tFrame (a.getD i tFrame.dflt)), .cells 61 (Ty.enc tFrame (b.getD i tFrame.dflt))])
  (.need (inR .i64 (((i : Nat) : Int) + 1)) <|
  .stop (lp (bodyOf Tryz.f92) 0) (.junk :: .c (.ro tFrame b) :: .c (.fn0 93) :: J8 (J4 (.c (.ro tFrame a) :: .c (.int .i64 (a.length : Int)) :: .c (.int .i64 (((i : Nat) : Int) + 1)) :: J8 (J4 (J2 ([])))))) [.cells 61 (Ty.enc tFrame (a.getD i tFrame.dflt)), .cells 61 (Ty.enc tFrame (b.getD i tFrame.dflt))]))
 (.ret (.c (.lit true)) [])
theorem qqFrame_l0 (a : List EFrame) (b : List EFrame) (i : Nat) (hl : a.length = b.length) (hb : a.length ≤ 9223372036854775807) : Run Tryz.prog 92 (retQ Tryz.prog (.c (.bool (decide (a.drop i = b.drop i))))) (lp (bodyOf Tryz.f92) 0) (.junk :: .c (.ro tFrame b) :: .c (.fn0 93) :: J8 (J4 (.c (.ro tFrame a) :: .c (.int .i64 (a.length : Int)) :: .c (.int .i64 ((i : Nat) : Int)) :: J8 (J4 (J2 ([])))))) [] :=
 Run.roundA ocJb qqFrame_lv 3000 Tryz.func92 mixed (qqFrame_l0_R a b i) (by kernel_rfl) (by
  unfold qqFrame_l0_R
  refine g_iteD (fun h0 => ?_) (fun h0 => ?_)
  ·refine g_need (by omega) ?_
   refine g_need (by omega) ?_
   refine g_need (by omega) ?_
   refine g_need (by omega) ?_
   refine g_call (qFrame_fun (a.getD i tFrame.dflt) (b.getD i tFrame.dflt)) (fun h => nomatch h) ?_
   refine g_iteND (fun h1 => ?_) (fun h1 => ?_)
   ·exact g_retl (by symm; rw [decide_eq_false_iff_not, drop_eqD (Ty.dflt tFrame) hl (by omega)]; intro q; rw [q.1] at h1; simp at h1)
   ·refine g_need (i64_iff.2 (by omega)) ?_
    refine g_stop (RunN.keep [] (false :: true :: true :: F8 (F4 (true :: true :: true :: F8 (F4 (F2 ([])))))) n0 (by decide) rfl rfl ?_)
    have := qqFrame_l0 a b (i + 1) hl hb; have e : decide (a.drop i = b.drop i) = decide (a.drop (i + 1) = b.drop (i + 1)) := (by rw [decide_eq_decide, drop_eqD (Ty.dflt tFrame) hl (by omega)]; exact ⟨fun q => q.2, fun q => ⟨(by simpa using h1), q⟩⟩); rw [e]; exact this
  ·exact g_retl (by rw [List.drop_eq_nil_of_le (by omega), List.drop_eq_nil_of_le (by omega)]; rfl)
  )
 termination_by a.length - i
 decreasing_by all_goals omega
theorem qqFrame_fun (a : List EFrame) (b : List EFrame) : AFun Tryz.prog 92 [.c (.ro tFrame a), .c (.ro tFrame b), .c (.fn0 93)] (.c (.bool (decide (a = b)))) :=
 AFun.of ocJb qqFrame_lv 3000 Tryz.func92 mixed rfl (by decide) (Nat.le_of_ble_eq_true rfl) (qqFrame_T a b) (by kernel_rfl) fun hF => by
  unfold qqFrame_T
  refine g_iteND (fun h0 => ?_) (fun h0 => ?_)
  ·exact g_retl (by symm; rw [decide_eq_false_iff_not]; intro q; exact h0 (by rw [q]))
  ·refine g_stop (RunN.keep [] (false :: true :: true :: F8 (F4 (true :: true :: true :: F8 (F4 (F2 ([])))))) n0 (by decide) rfl rfl ?_)
   have := qqFrame_l0 a b 0 (by omega) hF.ro.1.1; exact this

noncomputable def ocJc : Orc where
 pure := fun f args => match f, args with
  | 92, [a0, a1, .one (.c (.fn0 93))] => match dA (.slice tFrame) a0, dA (.slice tFrame) a1 with
   | some x0, some x1 => some (.c (.bool (decide (x0 = x1))))
   | _, _ => none
  | _, _ => none
 heap := fun _ _ _ => none
def qframes_lv : LV := ⟨([]), []⟩
noncomputable def qframes_T (a : List EFrame) (b : List EFrame) : Tree :=
 .call 92 [.c (.ro tFrame a), .c (.ro tFrame b), .c (.fn0 93)] false (.c (.bool (decide (a = b)))) <|
 .ret (.c (.bool (decide (a = b)))) []
theorem qframes_fun (a : List EFrame) (b : List EFrame) : AFun Tryz.prog 49 [.c (.ro tFrame a), .c (.ro tFrame b)] (.c (.bool (decide (a = b)))) :=
 AFun.of ocJc qframes_lv 3000 Tryz.func49 mixed rfl (by decide) (Nat.le_of_ble_eq_true rfl) (qframes_T a b) (by kernel_rfl) fun hF => by
  unfold qframes_T
  refine g_call (qqFrame_fun a b) (fun h => nomatch h) ?_
  exact g_retb (by rfl)

noncomputable def ocJd : Orc where
 pure := fun f args => match f, args with
  | 48, [a0, a1] => match dA (.slice tVal) a0, dA (.slice tVal) a1 with
   | some x0, some x1 => some (.c (.bool (decide (x0 = x1))))
   | _, _ => none
  | 49, [a0, a1] => match dA (.slice tFrame) a0, dA (.slice tFrame) a1 with
   | some x0, some x1 => some (.c (.bool (decide (x0 = x1))))
   | _, _ => none
  | _, _ => none
 heap := fun _ _ _ => none
def qCell_lv : LV := ⟨([]), []⟩
noncomputable def qCell_T (x : ECell) (y : ECell) : Tree :=
 .ite (decide (x.1 = y.1))
 (.ite (decide (x.2.1 = y.2.1))
  (.call 48 [.c (.ro tVal x.2.2.1), .c (.ro tVal y.2.2.1)] false (.c (.bool (decide (x.2.2.1 = y.2.2.1)))) <|
  .ite (decide (x.2.2.1 = y.2.2.1))
  (.call 49 [.c (.ro tFrame x.2.2.2), .c (.ro tFrame y.2.2.2)] false (.c (.bool (decide (x.2.2.2 = y.2.2.2)))) <|
   .ret (.c (.bool (decide (x.2.2.2 = y.2.2.2)))) [.cells 55 (Ty.enc tCell x), .cells 55 (Ty.enc tCell y)])
  (.ret (.c (.lit false)) [.cells 55 (Ty.enc tCell x), .cells 55 (Ty.enc tCell y)]))
  (.ret (.c (.lit false)) [.cells 55 (Ty.enc tCell x), .cells 55 (Ty.enc tCell y)]))
 (.ret (.c (.lit false)) [.cells 55 (Ty.enc tCell x), .cells 55 (Ty.enc tCell y)])
theorem qCell_fun (x : ECell) (y : ECell) : AFun Tryz.prog 47 [.agg (tCell.enc x), .agg (tCell.enc y)] (.c (.bool (decide (x = y)))) :=
 AFun.of ocJd qCell_lv 3000 Tryz.func47 mixed rfl (by decide) (Nat.le_of_ble_eq_true rfl) (qCell_T x y) (by kernel_rfl) fun hF => by
  unfold qCell_T
  repeat' first
  | with_reducible refine g_iteD (fun h => ?_) (fun h => ?_)
  | refine g_call (qqVal_fun x.2.2.1 y.2.2.1) (fun h => nomatch h) ?_
  | refine g_call (qframes_fun x.2.2.2 y.2.2.2) (fun h => nomatch h) ?_
  | (exact g_retb (by rw [decide_eq_decide]; obtain ⟨a0, a1, a2, a3⟩ := x; obtain ⟨b0, b1, b2, b3⟩ := y; simp_all))
  | (exact g_retl (by symm; rw [decide_eq_false_iff_not]; rintro rfl; simp_all))

noncomputable def ocJe : Orc where
 pure := fun f args => match f, args with
  | 47, [a0, a1] => match dA tCell a0, dA tCell a1 with
   | some x0, some x1 => some (.c (.bool (decide (x0 = x1))))
   | _, _ => none
  | _, _ => none
 heap := fun _ _ _ => none
def qqCell_lv : LV := ⟨(false :: true :: true :: F8 (F4 (true :: true :: true :: F8 (F4 (F2 ([])))))), []⟩
noncomputable def qqCell_T (a : List ECell) (b : List ECell) : Tree :=
 .ite ((!(decide ((a.length : Int) = (b.length : Int)))))
 (.ret (.c (.lit false)) [])
 (.stop (lp (bodyOf Tryz.f46) 0) (.junk :: .c (.ro tCell b) :: .c (.fn0 47) :: J8 (J4 (.c (.ro tCell a) :: .c (.int .i64 (a.length : Int)) :: .c (.int .i64 0) :: J8 (J4 (J2 ([])))))) [])
noncomputable def qqCell_l0_R (a : List ECell) (b : List ECell) (i : Nat) : Tree :=
 .ite (decide (((i : Nat) : Int) < (a.length : Int)))
 (.need ((0 : Int) ≤ ((i : Nat) : Int) ∧ (((i : Nat) : Int) : Int) < (a.length : Int)) <|
  .need (i < a.length) <|
  .need ((0 : Int) ≤ ((i : Nat) : Int) ∧ (((i : Nat) : Int) : Int) < (b.length : Int)) <|
  .need (i < b.length) <|
  .call 47 [.agg (Ty.enc tCell (a.getD i tCell.dflt)), .agg (Ty.enc tCell (b.getD i tCell.dflt))] false (.c (.bool (decide ((a.getD i tCell.dflt) = (b.getD i tCell.dflt))))) <|
  .ite ((!(decide ((a.getD i tCell.dflt) = (b.getD i tCell.dflt)))))
  (.ret (.c (.lit false)) [.cells 55 (Ty.enc tCell (a.getD i tCell.dflt)), .cells 55 (Ty.enc tCell (b.getD i tCell.dflt))])
  (.need (inR .i64 (((i : Nat) : Int) + 1)) <|
  .stop (lp (bodyOf Tryz.f46) 0) (.junk :: .c (.ro tCell b) :: .c (.fn0 47) :: J8 (J4 (.c (.ro tCell a) :: .c (.int .i64 (a.length : Int)) :: .c (.int .i64 (((i : Nat) : Int) + 1)) :: J8 (J4 (J2 ([])))))) [.cells 55 (Ty.enc tCell (a.getD i tCell.dflt)), .cells 55 (Ty.enc tCell (b.getD i tCell.dflt))]))
 (.ret (.c (.lit true)) [])
theorem qqCell_l0 (a : List ECell) (b : List ECell) (i : Nat) (hl : a.length = b.length) (hb : a.length ≤ 9223372036854775807) : Run Tryz.prog 46 (retQ Tryz.prog (.c (.bool (decide (a.drop i = b.drop i))))) (lp (bodyOf Tryz.f46) 0) (.junk :: .c (.ro tCell b) :: .c (.fn0 47) :: J8 (J4 (.c (.ro tCell a) :: .c (.int .i64 (a.length : Int)) :: .c (.int .i64 ((i : Nat) : Int)) :: J8 (J4 (J2 ([])))))) [] :=
 Run.roundA ocJe qqCell_lv 3000 Tryz.func46 mixed (qqCell_l0_R a b i) (by kernel_rfl) (by
  unfold qqCell_l0_R
  refine g_iteD (fun h0 => ?_) (fun h0 => ?_)
  ·refine g_need (by omega) ?_
   refine g_need (by omega) ?_
   refine g_need (by omega) ?_
   refine g_need (by omega) ?_
   refine g_call (qCell_fun (a.getD i tCell.dflt) (b.getD i tCell.dflt)) (fun h => nomatch h) ?_
   refine g_iteND (fun h1 => ?_) (fun h1 => ?_)
   ·exact g_retl (by symm; rw [decide_eq_false_iff_not, drop_eqD (Ty.dflt tCell) hl (by omega)]; intro q; rw [q.1] at h1; simp at h1)
   ·refine g_need (i64_iff.2 (by omega)) ?_
    refine g_stop (RunN.keep [] (false :: true :: true :: F8 (F4 (true :: true :: true :: F8 (F4 (F2 ([])))))) n0 (by decide) rfl rfl ?_)
    have := qqCell_l0 a b (i + 1) hl hb; have e : decide (a.drop i = b.drop i) = decide (a.drop (i + 1) = b.drop (i + 1)) := (by rw [decide_eq_decide, drop_eqD (Ty.dflt tCell) hl (by omega)]; exact ⟨fun q => q.2, fun q => ⟨(by simpa using h1), q⟩⟩); rw [e]; exact this
  ·exact g_retl (by rw [List.drop_eq_nil_of_le (by omega), List.drop_eq_nil_of_le (by omega)]; rfl)
  )
 termination_by a.length - i
 decreasing_by all_goals omega
theorem qqCell_fun (a : List ECell) (b : List ECell) : AFun Tryz.prog 46 [.c (.ro tCell a), .c (.ro tCell b), .c (.fn0 47)] (.c (.bool (decide (a = b)))) :=
 AFun.of ocJe qqCell_lv 3000 Tryz.func46 mixed rfl (by decide) (Nat.le_of_ble_eq_true rfl) (qqCell_T a b) (by kernel_rfl) fun hF => by
  unfold qqCell_T
  refine g_iteND (fun h0 => ?_) (fun h0 => ?_)
  ·exact g_retl (by symm; rw [decide_eq_false_iff_not]; intro q; exact h0 (by rw [q]))
  ·refine g_stop (RunN.keep [] (false :: true :: true :: F8 (F4 (true :: true :: true :: F8 (F4 (F2 ([])))))) n0 (by decide) rfl rfl ?_)
   have := qqCell_l0 a b 0 (by omega) hF.ro.1.1; exact this

noncomputable def ocJf : Orc where
 pure := fun f args => match f, args with
  | 49, [a0, a1] => match dA (.slice tFrame) a0, dA (.slice tFrame) a1 with
   | some x0, some x1 => some (.c (.bool (decide (x0 = x1))))
   | _, _ => none
  | _, _ => none
 heap := fun _ _ _ => none
def qThread_lv : LV := ⟨([]), []⟩
noncomputable def qThread_T (x : EThread) (y : EThread) : Tree :=
 .ite (decide (x.2.1 = y.2.1))
 (.ite (decide (x.2.2.1 = y.2.2.1))
  (.ite ((decide (x.2.2.2.1 = y.2.2.2.1) && (decide (x.2.2.2.2 = y.2.2.2.2) && true)))
  (.call 49 [.c (.ro tFrame x.1), .c (.ro tFrame y.1)] false (.c (.bool (decide (x.1 = y.1)))) <|
   .ret (.c (.bool (decide (x.1 = y.1)))) [.cells 57 (Ty.enc tThread x), .cells 57 (Ty.enc tThread y)])
  (.ret (.c (.lit false)) [.cells 57 (Ty.enc tThread x), .cells 57 (Ty.enc tThread y)]))
  (.ret (.c (.lit false)) [.cells 57 (Ty.enc tThread x), .cells 57 (Ty.enc tThread y)]))
 (.ret (.c (.lit false)) [.cells 57 (Ty.enc tThread x), .cells 57 (Ty.enc tThread y)])
theorem qThread_fun (x : EThread) (y : EThread) : AFun Tryz.prog 53 [.agg (tThread.enc x), .agg (tThread.enc y)] (.c (.bool (decide (x = y)))) :=
 AFun.of ocJf qThread_lv 3000 Tryz.func53 mixed rfl (by decide) (Nat.le_of_ble_eq_true rfl) (qThread_T x y) (by kernel_rfl) fun hF => by
  unfold qThread_T
  repeat' first
  | with_reducible refine g_iteD (fun h => ?_) (fun h => ?_)
  | with_reducible refine g_ite (fun h => ?_) (fun h => ?_)
  | refine g_call (qframes_fun x.1 y.1) (fun h => nomatch h) ?_
  | (exact g_retb (by rw [decide_eq_decide]; obtain ⟨a0, a1, a2, ⟨a3, a4⟩⟩ := x; obtain ⟨b0, b1, b2, ⟨b3, b4⟩⟩ := y; simp_all))
  | (exact g_retl (by symm; rw [decide_eq_false_iff_not]; rintro rfl; simp_all))

noncomputable def ocJg : Orc where
 pure := fun f args => match f, args with
  | 53, [a0, a1] => match dA tThread a0, dA tThread a1 with
   | some x0, some x1 => some (.c (.bool (decide (x0 = x1))))
   | _, _ => none
  | _, _ => none
 heap := fun _ _ _ => none
def qqThread_lv : LV := ⟨(false :: true :: true :: F8 (F4 (true :: true :: true :: F8 (F4 (F2 ([])))))), []⟩
noncomputable def qqThread_T (a : List EThread) (b : List EThread) : Tree :=
 .ite ((!(decide ((a.length : Int) = (b.length : Int)))))
 (.ret (.c (.lit false)) [])
 (.stop (lp (bodyOf Tryz.f52) 0) (.junk :: .c (.ro tThread b) :: .c (.fn0 53) :: J8 (J4 (.c (.ro tThread a) :: .c (.int .i64 (a.length : Int)) :: .c (.int .i64 0) :: J8 (J4 (J2 ([])))))) [])
noncomputable def qqThread_l0_R (a : List EThread) (b : List EThread) (i : Nat) : Tree :=
 .ite (decide (((i : Nat) : Int) < (a.length : Int)))
 (.need ((0 : Int) ≤ ((i : Nat) : Int) ∧ (((i : Nat) : Int) : Int) < (a.length : Int)) <|
  .need (i < a.length) <|
  .need ((0 : Int) ≤ ((i : Nat) : Int) ∧ (((i : Nat) : Int) : Int) < (b.length : Int)) <|
  .need (i < b.length) <|
  .call 53 [.agg (Ty.enc tThread (a.getD i tThread.dflt)), .agg (Ty.enc tThread (b.getD i tThread.dflt))] false (.c (.bool (decide ((a.getD i tThread.dflt) = (b.getD i tThread.dflt))))) <|
  .ite ((!(decide ((a.getD i tThread.dflt) = (b.getD i tThread.dflt)))))
  (.ret (.c (.lit false)) [.cells 57 (Ty.enc tThread (a.getD i tThread.dflt)), .cells 57 (Ty.enc tThread (b.getD i tThread.dflt))])
  (.need (inR .i64 (((i : Nat) : Int) + 1)) <|
  .stop (lp (bodyOf Tryz.f52) 0) (.junk :: .c (.ro tThread b) :: .c (.fn0 53) :: J8 (J4 (.c (.ro tThread a) :: .c (.int .i64 (a.length : Int)) :: .c (.int .i64 (((i : Nat) : Int) + 1)) :: J8 (J4 (J2 ([])))))) [.cells 57 (Ty.enc tThread (a.getD i tThread.dflt)), .cells 57 (Ty.enc tThread (b.getD i tThread.dflt))]))
 (.ret (.c (.lit true)) [])
theorem qqThread_l0 (a : List EThread) (b : List EThread) (i : Nat) (hl : a.length = b.length) (hb : a.length ≤ 9223372036854775807) : Run Tryz.prog 52 (retQ Tryz.prog (.c (.bool (decide (a.drop i = b.drop i))))) (lp (bodyOf Tryz.f52) 0) (.junk :: .c (.ro tThread b) :: .c (.fn0 53) :: J8 (J4 (.c (.ro tThread a) :: .c (.int .i64 (a.length : Int)) :: .c (.int .i64 ((i : Nat) : Int)) :: J8 (J4 (J2 ([])))))) [] :=
 Run.roundA ocJg qqThread_lv 3000 Tryz.func52 mixed (qqThread_l0_R a b i) (by kernel_rfl) (by
  unfold qqThread_l0_R
  refine g_iteD (fun h0 => ?_) (fun h0 => ?_)
  ·refine g_need (by omega) ?_
   refine g_need (by omega) ?_
   refine g_need (by omega) ?_
   refine g_need (by omega) ?_
   refine g_call (qThread_fun (a.getD i tThread.dflt) (b.getD i tThread.dflt)) (fun h => nomatch h) ?_
   refine g_iteND (fun h1 => ?_) (fun h1 => ?_)
   ·exact g_retl (by symm; rw [decide_eq_false_iff_not, drop_eqD (Ty.dflt tThread) hl (by omega)]; intro q; rw [q.1] at h1; simp at h1)
   ·refine g_need (i64_iff.2 (by omega)) ?_
    refine g_stop (RunN.keep [] (false :: true :: true :: F8 (F4 (true :: true :: true :: F8 (F4 (F2 ([])))))) n0 (by decide) rfl rfl ?_)
    have := qqThread_l0 a b (i + 1) hl hb; have e : decide (a.drop i = b.drop i) = decide (a.drop (i + 1) = b.drop (i + 1)) := (by rw [decide_eq_decide, drop_eqD (Ty.dflt tThread) hl (by omega)]; exact ⟨fun q => q.2, fun q => ⟨(by simpa using h1), q⟩⟩); rw [e]; exact this
  ·exact g_retl (by rw [List.drop_eq_nil_of_le (by omega), List.drop_eq_nil_of_le (by omega)]; rfl)
  )
 termination_by a.length - i
 decreasing_by all_goals omega
theorem qqThread_fun (a : List EThread) (b : List EThread) : AFun Tryz.prog 52 [.c (.ro tThread a), .c (.ro tThread b), .c (.fn0 53)] (.c (.bool (decide (a = b)))) :=
 AFun.of ocJg qqThread_lv 3000 Tryz.func52 mixed rfl (by decide) (Nat.le_of_ble_eq_true rfl) (qqThread_T a b) (by kernel_rfl) fun hF => by
  unfold qqThread_T
  refine g_iteND (fun h0 => ?_) (fun h0 => ?_)
  ·exact g_retl (by symm; rw [decide_eq_false_iff_not]; intro q; exact h0 (by rw [q]))
  ·refine g_stop (RunN.keep [] (false :: true :: true :: F8 (F4 (true :: true :: true :: F8 (F4 (F2 ([])))))) n0 (by decide) rfl rfl ?_)
   have := qqThread_l0 a b 0 (by omega) hF.ro.1.1; exact this

noncomputable def ocJh : Orc where
 pure := fun f args => match f, args with
  | 46, [a0, a1, .one (.c (.fn0 47))] => match dA (.slice tCell) a0, dA (.slice tCell) a1 with
   | some x0, some x1 => some (.c (.bool (decide (x0 = x1))))
   | _, _ => none
  | 48, [a0, a1] => match dA (.slice tVal) a0, dA (.slice tVal) a1 with
   | some x0, some x1 => some (.c (.bool (decide (x0 = x1))))
   | _, _ => none
  | 50, [a0, a1] => match dA (.slice tVal) a0, dA (.slice tVal) a1 with
   | some x0, some x1 => some (.c (.bool (decide (x0 = x1))))
   | _, _ => none
  | 51, [a0, a1] => match dA (.slice .str) a0, dA (.slice .str) a1 with
   | some x0, some x1 => some (.c (.bool (decide (x0 = x1))))
   | _, _ => none
  | 52, [a0, a1, .one (.c (.fn0 53))] => match dA (.slice tThread) a0, dA (.slice tThread) a1 with
   | some x0, some x1 => some (.c (.bool (decide (x0 = x1))))
   | _, _ => none
  | 54, [a0, a1] => match dA (.slice tEnd) a0, dA (.slice tEnd) a1 with
   | some x0, some x1 => some (.c (.bool (decide (x0 = x1))))
   | _, _ => none
  | _, _ => none
 heap := fun _ _ _ => none
def qState_lv : LV := ⟨([]), []⟩
abbrev gJa1 (x : EState) (y : EState) : List AB := [.cells 40 (Ty.enc tState x), .cells 40 (Ty.enc tState y)]
noncomputable def qState_T (x : EState) (y : EState) : Tree :=
 .call 46 [.c (.ro tCell x.1), .c (.ro tCell y.1), .c (.fn0 47)] false (.c (.bool (decide (x.1 = y.1)))) <|
 .ite (decide (x.1 = y.1))
 (.call 50 [.c (.ro tVal x.2.1), .c (.ro tVal y.2.1)] false (.c (.bool (decide (x.2.1 = y.2.1)))) <|
  .ite (decide (x.2.1 = y.2.1))
  (.call 51 [.c (.ro .str x.2.2.1), .c (.ro .str y.2.2.1)] false (.c (.bool (decide (x.2.2.1 = y.2.2.1)))) <|
  .ite (decide (x.2.2.1 = y.2.2.1))
  (.call 52 [.c (.ro tThread x.2.2.2.1), .c (.ro tThread y.2.2.2.1), .c (.fn0 53)] false (.c (.bool (decide (x.2.2.2.1 = y.2.2.2.1)))) <|
   .ite (decide (x.2.2.2.1 = y.2.2.2.1))
   (.call 54 [.c (.ro tEnd x.2.2.2.2.1), .c (.ro tEnd y.2.2.2.2.1)] false (.c (.bool (decide (x.2.2.2.2.1 = y.2.2.2.2.1)))) <|
   .ite (decide (x.2.2.2.2.1 = y.2.2.2.2.1))
   (.call 48 [.c (.ro tVal x.2.2.2.2.2.1), .c (.ro tVal y.2.2.2.2.2.1)] false (.c (.bool (decide (x.2.2.2.2.2.1 = y.2.2.2.2.2.1)))) <|
    .ite (decide (x.2.2.2.2.2.1 = y.2.2.2.2.2.1))
    (.ite (decide (x.2.2.2.2.2.2.1 = y.2.2.2.2.2.2.1))
    (.ret (.c (.bool (decide (x.2.2.2.2.2.2.2 = y.2.2.2.2.2.2.2)))) (gJa1 x y))
    (.ret (.c (.lit false)) (gJa1 x y)))
    (.ret (.c (.lit false)) (gJa1 x y)))
   (.ret (.c (.lit false)) (gJa1 x y)))
   (.ret (.c (.lit false)) (gJa1 x y)))
  (.ret (.c (.lit false)) (gJa1 x y)))
  (.ret (.c (.lit false)) (gJa1 x y)))
 (.ret (.c (.lit false)) (gJa1 x y))
theorem qState_fun (x : EState) (y : EState) : AFun Tryz.prog 26 [.agg (tState.enc x), .agg (tState.enc y)] (.c (.bool (decide (x = y)))) :=
 AFun.of ocJh qState_lv 3000 Tryz.func26 mixed rfl (by decide) (Nat.le_of_ble_eq_true rfl) (qState_T x y) (by kernel_rfl) fun hF => by
  unfold qState_T
  repeat' first
  | with_reducible refine g_iteD (fun h => ?_) (fun h => ?_)
  | refine g_call (qqCell_fun x.1 y.1) (fun h => nomatch h) ?_
  | refine g_call (qqShape_fun x.2.1 y.2.1) (fun h => nomatch h) ?_
  | refine g_call (eqS_fun x.2.2.1 y.2.2.1) (fun h => nomatch h) ?_
  | refine g_call (qqThread_fun x.2.2.2.1 y.2.2.2.1) (fun h => nomatch h) ?_
  | refine g_call (qqEnd_fun x.2.2.2.2.1 y.2.2.2.2.1) (fun h => nomatch h) ?_
  | refine g_call (qqVal_fun x.2.2.2.2.2.1 y.2.2.2.2.2.1) (fun h => nomatch h) ?_
  | (exact g_retb (by rw [decide_eq_decide]; obtain ⟨a0, a1, a2, a3, a4, a5, a6, a7⟩ := x; obtain ⟨b0, b1, b2, b3, b4, b5, b6, b7⟩ := y; simp_all))
  | (exact g_retl (by symm; rw [decide_eq_false_iff_not]; rintro rfl; simp_all))

end Go.Proofs.YtkonkblfckhcbaaGreatDoor
namespace Go.Proofs.YtkonkblfckhcbaaGreatDoor
set_option linter.unusedVariables false
set_option linter.unusedSimpArgs false
open Go.RowKit
theorem cTry : Opens Tryz.prog 101 tVal.rd := opens_struct (d := tVal.rd) Tryz.underlying101 (by kernel_rfl) (opensFs_cons rfl cI (opensFs_one rfl cI))
theorem cShape : Opens Tryz.prog 51 tVal.rd := opens_struct (d := tVal.rd) Tryz.underlying51 (by kernel_rfl) (opensFs_cons rfl cI (opensFs_one rfl cI))
theorem cFrame : Opens Tryz.prog 61 tFrame.rd := opens_struct (d := tFrame.rd) Tryz.underlying61 (by kernel_rfl) (opensFs_cons rfl cI (opensFs_cons rfl cI (opensFs_cons rfl cI (opensFs_cons rfl cI (opensFs_cons rfl cVal (opensFs_cons rfl cVals (opensFs_one rfl (opens_slice Tryz.underlying59 (by kernel_rfl) cTry (szp _)))))))))
theorem cCell : Opens Tryz.prog 55 tCell.rd := opens_struct (d := tCell.rd) Tryz.underlying55 (by kernel_rfl) (opensFs_cons rfl cI (opensFs_cons rfl cI (opensFs_cons rfl cVals (opensFs_one rfl (opens_slice Tryz.underlying53 (by kernel_rfl) cFrame (szp _))))))
theorem cThread : Opens Tryz.prog 57 tThread.rd := opens_struct (d := tThread.rd) Tryz.underlying57 (by kernel_rfl) (opensFs_cons rfl (opens_slice Tryz.underlying53 (by kernel_rfl) cFrame (szp _)) (opensFs_cons rfl cI (opensFs_cons rfl cI (opensFs_one rfl cVal))))
theorem cEnd : Opens Tryz.prog 112 tEnd.rd := opens_struct (d := tEnd.rd) Tryz.underlying112 (by kernel_rfl) (opensFs_cons rfl cI (opensFs_one rfl cVal))
theorem cState : Opens Tryz.prog 40 tState.rd := opens_struct (d := tState.rd) Tryz.underlying40 (by kernel_rfl) (opensFs_cons rfl (opens_slice Tryz.underlying35 (by kernel_rfl) cCell (szp _)) (opensFs_cons rfl (opens_slice Tryz.underlying36 (by kernel_rfl) cShape (szp _)) (opensFs_cons rfl cSs (opensFs_cons rfl (opens_slice Tryz.underlying37 (by kernel_rfl) cThread (szp _)) (opensFs_cons rfl (opens_slice Tryz.underlying38 (by kernel_rfl) cEnd (szp _)) (opensFs_cons rfl cVals (opensFs_cons rfl cI (opensFs_one rfl cI))))))))
end Go.Proofs.YtkonkblfckhcbaaGreatDoor
namespace Go.Proofs.YtkonkblfckhcbaaGreatDoor
set_option maxHeartbeats 4000000
set_option linter.unusedVariables false
set_option linter.unusedSimpArgs false
set_option maxRecDepth 100000
/-- A list, turned round from both ends: what lies between i and j is still to be turned. -/
def revL (i : Nat) (j : Int) (xs : List Int) : List Int :=
  if (i : Int) < j then revL (i + 1) (j - 1) ((xs.set i (xs.getD j.toNat tI.dflt)).set j.toNat (xs.getD i tI.dflt)) else xs
termination_by (j - i).toNat
def revF (xs : List Int) : List Int := revL 0 ((xs.length : Int) - 1) xs
theorem revL_len (i : Nat) (j : Int) (xs : List Int) : (revL i j xs).length = xs.length := by
  rw [revL]
  split
  · rw [revL_len]; simp
  · rfl
termination_by (j - i).toNat
theorem revF_len (xs : List Int) : (revF xs).length = xs.length := revL_len _ _ _
def rev_lv : LV := ⟨(true :: false :: true :: true :: F16 (F8 ([]))), []⟩
noncomputable def rev_T (xs : List Int) : Tree :=
  .need (inR .i64 (((xs.length : Nat) : Int) - 1)) <|
  .stop (lp (bodyOf Tryz.f201) 0) (.c (.osl 0 1 xs.length) :: .junk :: .c (.int .i64 0) :: .c (.int .i64 (((xs.length : Nat) : Int) - 1)) :: J16 (J8 ([]))) [.ovec 3 tI xs]
noncomputable def rev_l0_R (xs : List Int) (i : Nat) (j : Int) (ys : List Int) : Tree :=
  .ite (decide (((i : Nat) : Int) < j))
  (.need ((0 : Int) ≤ j ∧ (j : Int) < ((ys.length : Nat) : Int)) <|
   .need ((Int.toNat j) < ys.length) <|
   .need ((0 : Int) ≤ ((i : Nat) : Int) ∧ (((i : Nat) : Int) : Int) < ((ys.length : Nat) : Int)) <|
   .need (i < ys.length) <|
   .need ((0 : Int) ≤ ((i : Nat) : Int) ∧ (((i : Nat) : Int) : Int) < ((ys.length : Nat) : Int)) <|
   .need (i < ys.length) <|
   .need ((0 : Int) ≤ j ∧ (j : Int) < ((ys.length : Nat) : Int)) <|
   .need ((Int.toNat j) < (ys.set i (ys.getD (Int.toNat j) tI.dflt)).length) <|
   .need (inR .i64 (((i : Nat) : Int) + 1)) <|
   .need (inR .i64 (j - 1)) <|
   .stop (lp (bodyOf Tryz.f201) 0) (.c (.osl 0 1 ys.length) :: .junk :: .c (.int .i64 (((i : Nat) : Int) + 1)) :: .c (.int .i64 (j - 1)) :: J16 (J8 ([]))) [.ovec 3 tI ((ys.set i (ys.getD (Int.toNat j) tI.dflt)).set (Int.toNat j) (ys.getD i tI.dflt))])
  (.ret (.tup []) [.ovec 3 tI ys])
theorem rev_l0 (xs : List Int) (i : Nat) (j : Int) (ys : List Int) (hl : ys.length = xs.length) (hb : xs.length ≤ 9223372036854775807) (hj : j < (xs.length : Int)) (hj0 : -1 ≤ j + (i : Int)) : RunN 1 Tryz.prog 201 (finQ Tryz.prog 1 (.tup []) [.ovec 3 tI (revL i j ys)]) (lp (bodyOf Tryz.f201) 0) (.c (.osl 0 1 ys.length) :: .junk :: .c (.int .i64 ((i : Nat) : Int)) :: .c (.int .i64 j) :: J16 (J8 ([]))) [.ovec 3 tI ys] :=
  Run.roundA oc0 rev_lv 3000 Tryz.func201 mixed (rev_l0_R xs i j ys) (by kernel_rfl) (by
    unfold rev_l0_R
    refine g_iteD (fun h0 => ?_) (fun h0 => ?_)
    · refine g_need (by first | omega | (constructor <;> omega) | (rw [i64_iff]; omega) | (rw [i64_iff]; constructor <;> omega) | rfl | (simp; done) | (simp; omega) | (constructor <;> (simp; omega))) ?_
      refine g_need (by first | omega | (constructor <;> omega) | (rw [i64_iff]; omega) | (rw [i64_iff]; constructor <;> omega) | rfl | (simp; done) | (simp; omega) | (constructor <;> (simp; omega))) ?_
      refine g_need (by first | omega | (constructor <;> omega) | (rw [i64_iff]; omega) | (rw [i64_iff]; constructor <;> omega) | rfl | (simp; done) | (simp; omega) | (constructor <;> (simp; omega))) ?_
      refine g_need (by first | omega | (constructor <;> omega) | (rw [i64_iff]; omega) | (rw [i64_iff]; constructor <;> omega) | rfl | (simp; done) | (simp; omega) | (constructor <;> (simp; omega))) ?_
      refine g_need (by first | omega | (constructor <;> omega) | (rw [i64_iff]; omega) | (rw [i64_iff]; constructor <;> omega) | rfl | (simp; done) | (simp; omega) | (constructor <;> (simp; omega))) ?_
      refine g_need (by first | omega | (constructor <;> omega) | (rw [i64_iff]; omega) | (rw [i64_iff]; constructor <;> omega) | rfl | (simp; done) | (simp; omega) | (constructor <;> (simp; omega))) ?_
      refine g_need (by first | omega | (constructor <;> omega) | (rw [i64_iff]; omega) | (rw [i64_iff]; constructor <;> omega) | rfl | (simp; done) | (simp; omega) | (constructor <;> (simp; omega))) ?_
      refine g_need (by first | omega | (constructor <;> omega) | (rw [i64_iff]; omega) | (rw [i64_iff]; constructor <;> omega) | rfl | (simp; done) | (simp; omega) | (constructor <;> (simp; omega))) ?_
      refine g_need (by first | omega | (constructor <;> omega) | (rw [i64_iff]; omega) | (rw [i64_iff]; constructor <;> omega) | rfl | (simp; done) | (simp; omega) | (constructor <;> (simp; omega))) ?_
      refine g_need (by first | omega | (constructor <;> omega) | (rw [i64_iff]; omega) | (rw [i64_iff]; constructor <;> omega) | rfl | (simp; done) | (simp; omega) | (constructor <;> (simp; omega))) ?_
      refine g_stop (RunN.keep [0] (true :: false :: true :: true :: F16 (F8 ([]))) (kk rfl) (by decide) rfl rfl ?_)
      refine RunN.less (env' := (.c (.osl 0 1 ((ys.set i (ys.getD (Int.toNat j) tI.dflt)).set (Int.toNat j) (ys.getD i tI.dflt)).length) :: .junk :: .c (.int .i64 (((i + 1) : Nat) : Int)) :: .c (.int .i64 (j - 1)) :: J16 (J8 ([])))) (H' := [.ovec 3 tI ((ys.set i (ys.getD (Int.toNat j) tI.dflt)).set (Int.toNat j) (ys.getD i tI.dflt))]) (⟨⟨rfl, rfl, by simp⟩, leAVs.same rfl⟩) (leHs.refl _) ?_
      have ht := rev_l0 xs (i + 1) (j - 1) ((ys.set i (ys.getD (Int.toNat j) tI.dflt)).set (Int.toNat j) (ys.getD i tI.dflt)) (by simp; exact hl) hb (by omega) (by omega); rw [revL, if_pos h0]; exact ht
    · refine g_fin ?_
      exact g_end [0] (kk rfl) (by decide) (leAV.refl _) ⟨⟨rfl, ⟨rfl, (show (ys) = revL i j ys from by rw [revL, if_neg h0])⟩⟩, trivial⟩
    )
  termination_by (j - (i : Int)).toNat
  decreasing_by all_goals omega
theorem rev_fun (xs : List Int) : AFunH Tryz.prog 201 [.c (.osl 0 1 xs.length)] [.ovec 3 tI xs] (.tup []) [.ovec 3 tI (revF xs)] (List.range 1) :=
  AFunH.ofL oc0 rev_lv 3000 Tryz.func201 mixed rfl (by decide) (Nat.le_of_ble_eq_true rfl) rfl rfl (Nat.le_of_ble_eq_true rfl) (rev_T xs) (by kernel_rfl) fun hF => by
    have hb := hF.osl (i := 0) rfl
    unfold rev_T
    refine g_need (by first | omega | (constructor <;> omega) | (rw [i64_iff]; omega) | (rw [i64_iff]; constructor <;> omega) | rfl | (simp; done)) ?_
    refine g_stop (RunN.keep [0] (true :: false :: true :: true :: F16 (F8 ([]))) (kk rfl) (by decide) rfl rfl ?_)
    exact rev_l0 xs 0 (((xs.length : Nat) : Int) - 1) xs rfl hb (by omega) (by omega)

/-- Names of a shape, from it up. -/
def upN (l : List EVal) : Nat → Int → List Int
  | 0, _ => []
  | n + 1, s => if 0 < s then (l.getD s.toNat tVal.dflt).2 :: upN l n (l.getD s.toNat tVal.dflt).1 else []
/-- Up to shape k each Up stands ahead. -/
def upOk (l : List EVal) (k : Nat) : Prop := ∀ j : Nat, 0 < j → j ≤ k → 0 ≤ (l.getD j tVal.dflt).1 ∧ (l.getD j tVal.dflt).1 < (j : Int)
theorem upN_fuel {l : List EVal} {k : Nat} (h : upOk l k) : ∀ (n m : Nat) (s : Int), s.toNat ≤ n → s.toNat ≤ m → s.toNat ≤ k → upN l n s = upN l m s
  | 0, 0, _, _, _, _ => rfl
  | 0, m + 1, s, h1, _, _ => by rw [upN, upN, if_neg (by omega)]
  | n + 1, 0, s, _, h2, _ => by rw [upN, upN, if_neg (by omega)]
  | n + 1, m + 1, s, h1, h2, h3 => by
    rw [upN, upN]
    split
    · have := h s.toNat (by omega) h3
      rw [upN_fuel h n m _ (by omega) (by omega) (by omega)]
    · rfl
def shNames (l : List EVal) (s : Int) : List Int := revF (upN l s.toNat s)
noncomputable def ocJj : Orc where
  pure := fun f args => match f, args with
    | _, _ => none
  heap := fun f args H => match f, args with
    | 201, [.one (.c (.osl b0 1 _))] => (match ovecAs 3 tI H[b0]? with
        | some y0 => hres [b0] H (.tup []) [.ovec 3 tI (revF y0)]
        | _ => none)
    | _, _ => none
def names_lv : LV := ⟨(true :: true :: F2 (false :: true :: F16 (F2 ([])))), []⟩
noncomputable def names_T (l : List EVal) (s : Int) : Tree :=
  .stop (lp (bodyOf Tryz.f153) 0) (.c (.ro tVal l) :: .c (.int .i64 s) :: J2 (.junk :: .c (.nilsl) :: J16 (J2 ([])))) []
noncomputable def names_l0_R (l : List EVal) (s : Int) (z : Int) (out : List Int) : Tree :=
  .ite (decide ((0 : Int) < z))
  (.need ((0 : Int) ≤ z ∧ (z : Int) < (l.length : Int)) <|
   .need ((Int.toNat z) < l.length) <|
   .need (out.length = out.length) <|
   .need (0 = 0 ∧ 1 = ([(l.getD (Int.toNat z) tVal.dflt).2]).length) <|
   .need ((out.length + ([(l.getD (Int.toNat z) tVal.dflt).2]).length) * 8 ≤ 140737488355328) <|
   .need ((0 : Int) ≤ z ∧ (z : Int) < (l.length : Int)) <|
   .need ((Int.toNat z) < l.length) <|
   .stop (lp (bodyOf Tryz.f153) 0) (.c (.ro tVal l) :: .c (.int .i64 (l.getD (Int.toNat z) tVal.dflt).1) :: J2 (.junk :: .c (.osl 2 1 (out ++ [(l.getD (Int.toNat z) tVal.dflt).2]).length) :: J16 (J2 ([])))) [.dead, .vec 3 tI ([(l.getD (Int.toNat z) tVal.dflt).2]), .ovec 3 tI (out ++ [(l.getD (Int.toNat z) tVal.dflt).2])])
  (.need (out.length = out.length) <|
   .callH 201 [.c (.osl 0 1 out.length)] [.ovec 3 tI out] (.tup []) [.ovec 3 tI (revF out)] [0] <|
   .ret (.c (.osl 0 1 out.length)) [.ovec 3 tI (revF out)])
theorem names_l0 (l : List EVal) (s : Int) (z : Int) (out : List Int) (k : Nat) (hk : k < l.length) (hu : upOk l k) (hs : z ≤ (k : Int)) (hs0 : 0 ≤ z) (ho : out.length + z.toNat ≤ l.length) (hb : l.length ≤ 1000) : Run Tryz.prog 153 (retQ Tryz.prog (.c (.ro tI (revF (out ++ upN l z.toNat z))))) (lp (bodyOf Tryz.f153) 0) (.c (.ro tVal l) :: .c (.int .i64 z) :: J2 (.junk :: .c (.osl 0 1 out.length) :: J16 (J2 ([])))) [.ovec 3 tI out] :=
  Run.roundA ocJj names_lv 3000 Tryz.func153 mixed (names_l0_R l s z out) (by kernel_rfl) (by
    unfold names_l0_R
    refine g_iteD (fun h0 => ?_) (fun h0 => ?_)
    · refine g_need (by omega) ?_
      refine g_need (by omega) ?_
      refine g_need (rfl) ?_
      refine g_need (⟨rfl, rfl⟩) ?_
      refine g_need (by first | omega | (constructor <;> omega) | (rw [i64_iff]; omega) | (rw [i64_iff]; constructor <;> omega) | rfl | (simp; done) | (simp; omega) | (constructor <;> (simp; omega)) | (exact ⟨rfl, rfl⟩) | (exact (revF_len _).symm)) ?_
      refine g_need (by omega) ?_
      refine g_need (by omega) ?_
      refine g_stop (RunN.keep [2] (true :: true :: F2 (false :: true :: F16 (F2 ([])))) n0 (by decide) rfl rfl ?_)
      have hq := hu z.toNat (by omega) (by omega); have ht := names_l0 l s (l.getD (Int.toNat z) tVal.dflt).1 (out ++ [(l.getD (Int.toNat z) tVal.dflt).2]) k hk hu (by omega) hq.1 (by rw [List.length_append, List.length_singleton]; omega) hb; have e : upN l z.toNat z = (l.getD z.toNat tVal.dflt).2 :: upN l (l.getD z.toNat tVal.dflt).1.toNat (l.getD z.toNat tVal.dflt).1 := (by obtain ⟨n, hn⟩ : ∃ n, z.toNat = n + 1 := ⟨z.toNat - 1, by omega⟩; rw [hn, upN, if_pos (by omega), ← hn, upN_fuel hu _ _ _ (by omega) (Nat.le_refl _) (by omega)]); rw [e, List.append_cons]; exact ht
    · refine g_need (rfl) ?_
      refine g_callH (AFunH.frameB [0] (rev_fun out) rfl rfl rfl rfl rfl rfl rfl) ?_
      refine g_rq ?_
      refine g_need (by first | omega | (constructor <;> omega) | (rw [i64_iff]; omega) | (rw [i64_iff]; constructor <;> omega) | rfl | (simp; done) | (simp; omega) | (constructor <;> (simp; omega)) | (exact ⟨rfl, rfl⟩) | (exact (revF_len _).symm)) ?_
      exact g_rl (⟨rfl, (show (revF out) = revF (out ++ upN l z.toNat z) from by (have e : upN l z.toNat z = [] := (by cases z.toNat with | zero => rfl | succ n => (rw [upN, if_neg (by omega)]))); rw [e, List.append_nil])⟩) rfl
    )
  termination_by z.toNat
  decreasing_by all_goals omega
theorem names_fun (l : List EVal) (s : Int) (k : Nat) (hk : k < l.length) (hu : upOk l k) (hs : s ≤ (k : Int)) (hs0 : 0 ≤ s) (hb : l.length ≤ 1000) : AFun Tryz.prog 153 [.c (.ro tVal l), .c (.int .i64 s)] (.c (.ro tI (shNames l s))) :=
  AFun.of ocJj names_lv 3000 Tryz.func153 mixed rfl (by decide) (Nat.le_of_ble_eq_true rfl) (names_T l s) (by kernel_rfl) fun hF => by
    unfold names_T
    refine g_stop (RunN.keep [1000] (true :: true :: F2 (false :: true :: F16 (F2 ([])))) n0 (by decide) rfl rfl ?_)
    refine RunN.less (env' := (.c (.ro tVal l) :: .c (.int .i64 s) :: J2 (.junk :: .c (.osl 0 1 0) :: J16 (J2 ([]))))) (H' := [.ovec 3 tI ([])]) (leAVs.skip 5 rfl ⟨rfl, leAVs.same rfl⟩) (⟨rfl, trivial⟩) ?_
    have ht := names_l0 l s s ([]) k hk hu hs hs0 (by simp; omega) hb; rw [List.nil_append] at ht; exact ht

def fstG {α : Type} (q : α → Bool) : Nat → List α → Int
  | _, [] => -1
  | i, f :: r => if q f = true then (i : Int) else fstG q (i + 1) r
theorem fstG_ge {α : Type} {q : α → Bool} : ∀ {l : List α} {i : Nat}, decide (0 ≤ fstG q i l) = l.any q
  | [], i => rfl
  | f :: r, i => by
    unfold fstG
    rw [List.any_cons]
    split
    · rename_i h; rw [h]; simp
    · rename_i h; rw [fstG_ge (l := r)]; simp only [Bool.not_eq_true] at h; rw [h]; rfl
def isQ (v w : Int) : Bool := decide (v = w)
noncomputable def ocJl : Orc where
  pure := fun f args => match f, args with
    | _, _ => none
  heap := fun _ _ _ => none
def jIntI_lv : LV := ⟨(true :: true :: F4 (false :: true :: true :: F8 (F2 ([])))), []⟩
noncomputable def jIntI_T (l : List Int) (v : Int) : Tree :=
  .stop (lp (bodyOf Tryz.f200) 0) (.c (.ro tI l) :: .c (.int .i64 v) :: J4 (.junk :: .c (.int .i64 (l.length : Int)) :: .c (.int .i64 0) :: J8 (J2 ([])))) []
noncomputable def jIntI_l0_R (l : List Int) (v : Int) (i : Nat) : Tree :=
  .ite (decide (((i : Nat) : Int) < (l.length : Int)))
  (.need ((0 : Int) ≤ ((i : Nat) : Int) ∧ (((i : Nat) : Int) : Int) < (l.length : Int)) <|
   .need (i < l.length) <|
   .ite (decide (v = (l.getD i tI.dflt)))
   (.ret (.c (.int .i64 ((i : Nat) : Int))) [])
   (.need (inR .i64 (((i : Nat) : Int) + 1)) <|
    .stop (lp (bodyOf Tryz.f200) 0) (.c (.ro tI l) :: .c (.int .i64 v) :: J4 (.junk :: .c (.int .i64 (l.length : Int)) :: .c (.int .i64 (((i : Nat) : Int) + 1)) :: J8 (J2 ([])))) []))
  (.ret (.c (.int .i64 (-1))) [])
theorem jIntI_l0 (l : List Int) (v : Int) (i : Nat) (hl : l.length ≤ 9223372036854775807) : Run Tryz.prog 200 (retQ Tryz.prog (.c (.int .i64 (fstG (isQ v) i (l.drop i))))) (lp (bodyOf Tryz.f200) 0) (.c (.ro tI l) :: .c (.int .i64 v) :: J4 (.junk :: .c (.int .i64 (l.length : Int)) :: .c (.int .i64 ((i : Nat) : Int)) :: J8 (J2 ([])))) [] :=
  Run.roundA ocJl jIntI_lv 3000 Tryz.func200 mixed (jIntI_l0_R l v i) (by kernel_rfl) (by
    unfold jIntI_l0_R
    repeat' first
    | with_reducible refine g_iteD (fun h => ?_) (fun h => ?_)
    | refine g_need (by first | (omega) | exact i64_iff.2 (by omega)) ?_
    | (exact g_reti (by first | (rw [dropCons (α := Int) (Ty.dflt tI) (by omega)]; simp only [fstG, isQ, *, if_true, decide_true]; done) | (rw [List.drop_eq_nil_of_le (by omega)]; rfl)))
    | (refine g_stop (RunN.keep [] (true :: true :: F4 (false :: true :: true :: F8 (F2 ([])))) n0 (by decide) rfl rfl ?_); have := jIntI_l0 l v (i + 1) hl; rw [dropCons (α := Int) (Ty.dflt tI) (by omega)]; simp only [fstG, isQ, *, if_false, Bool.false_eq_true, decide_false]; exact this)
    )
  termination_by l.length - i
  decreasing_by all_goals omega
theorem jIntI_fun (l : List Int) (v : Int) : AFun Tryz.prog 200 [.c (.ro tI l), .c (.int .i64 v)] (.c (.int .i64 (fstG (isQ v) 0 l))) :=
  AFun.of ocJl jIntI_lv 3000 Tryz.func200 mixed rfl (by decide) (Nat.le_of_ble_eq_true rfl) (jIntI_T l v) (by kernel_rfl) fun hF => by
    have hl : l.length ≤ 9223372036854775807 := hF.ro.1.1
    unfold jIntI_T
    refine g_stop (RunN.keep [] (true :: true :: F4 (false :: true :: true :: F8 (F2 ([])))) n0 (by decide) rfl rfl ?_)
    exact jIntI_l0 l v 0 hl

noncomputable def ocJlc : Orc where
  pure := fun f args => match f, args with
    | 200, [a0, a1] => match dA (.slice tI) a0, dA tI a1 with
      | some x0, some x1 => some (.c (.int .i64 (fstG (isQ x1) 0 x0)))
      | _, _ => none
    | _, _ => none
  heap := fun _ _ _ => none
def jIntC_lv : LV := ⟨([]), []⟩
noncomputable def jIntC_T (l : List Int) (v : Int) : Tree :=
  .call 200 [.c (.ro tI l), .c (.int .i64 v)] false (.c (.int .i64 (fstG (isQ v) 0 l))) <|
  .ret (.c (.bool (decide ((0 : Int) ≤ fstG (isQ v) 0 l)))) []
theorem jIntC_fun (l : List Int) (v : Int) : AFun Tryz.prog 152 [.c (.ro tI l), .c (.int .i64 v)] (.c (.bool (List.any l (isQ v)))) :=
  AFun.of ocJlc jIntC_lv 3000 Tryz.func152 mixed rfl (by decide) (Nat.le_of_ble_eq_true rfl) (jIntC_T l v) (by kernel_rfl) fun hF => by
    unfold jIntC_T
    refine g_call (jIntI_fun l v) (fun h => nomatch h) ?_
    exact g_retb (by exact fstG_ge)

theorem shapeKey : MapLaw Tryz.prog 51 tVal := by
  refine ⟨Maps.Keyed.of_law (deep_law_laid (P := Tryz.prog) (by kernel_rfl) (m := 3) (by omega) (of_decide_eq_true (by kernel_rfl)) (by kernel_rfl) (by kernel_rfl)), fun x hx => ?_⟩
  obtain ⟨a, b⟩ := x
  obtain ⟨ha, hb⟩ := hx
  have hf : (plainV tVal (a, b)).formed Tryz.prog 51 = true := by
    unfold plainV plainCs
    simp only [Value.formed, Ty.isPair, if_true]
    rw [Tryz.underlying51]
    rfl
  have hk : Tryz.prog.keyType 51 = true := by kernel_rfl
  obtain ⟨n, hn⟩ : ∃ n, Tryz.prog.types.size = n + 2 := ⟨Tryz.prog.types.size - 2, by kernel_rfl⟩
  have ci : Tryz.prog.cellsOf 3 = 1 := by kernel_rfl
  have c2 : Tryz.prog.cellsOf 51 = 2 := by kernel_rfl
  have wf : ∀ n : Int, inR .i64 n → (Lit.int .i64 n).wf = true := fun n h => by
    have := i64_iff.1 h
    simp [Lit.wf, IntKind.min, IntKind.max, IntKind.bits, IntKind.signed]
    omega
  have hl : ∃ ls, Tryz.prog.keyLits (n + 2 + 1) 51 [.int .i64 a, .int .i64 b] = some ls := by
    simp [Program.keyLits, Tryz.underlying51, Tryz.underlying3, ci, c2, wf a ha, wf b hb]
    try (rw [if_pos (by intro i hi; have : i = 0 ∨ i = 1 := by omega
                        rcases this with rfl | rfl <;> simp)])
    try exact ⟨_, rfl⟩
  obtain ⟨ls, hls⟩ := hl
  refine ⟨.string (keyBytes ls), ?_⟩
  unfold keyOf
  rw [Tryz.underlying51]
  show (if (Tryz.prog.keyType 51 && (plainV tVal (a, b)).formed Tryz.prog 51) = true then _ else _) = _
  rw [if_pos (by rw [hk, hf]; rfl), hn]
  show Option.map _ (Tryz.prog.keyLits (n + 2 + 1) 51 [.int .i64 a, .int .i64 b]) = _
  rw [hls]
  rfl
/-- From shape k + 1 on. -/
def shBad (l : List EVal) (k : Nat) (m : EVal → Option Int) (s : EVal) : Prop := s.1 < 0 ∨ (k : Int) < s.1 ∨ s.2 < 0 ∨ (m s).getD 0 = 1 ∨ List.any (shNames l s.1) (isQ s.2) = true
instance (l : List EVal) (k : Nat) (m : EVal → Option Int) (s : EVal) : Decidable (shBad l k m s) := by unfold shBad; infer_instance
def shGo (l : List EVal) : Nat → List EVal → (EVal → Option Int) → Int
  | _, [], _ => 0
  | k, s :: r, m => if shBad l k m s then 3 else shGo l (k + 1) r (updM (kt := tVal) m s (1 : Int))
def shCheck (l : List EVal) : Int := if (100 : Int) < (l.length : Int) then 2 else if (l.length : Int) = 0 then 3 else if (!(decide ((l.getD 0 tVal.dflt).1 = (-1)) && (decide ((l.getD 0 tVal.dflt).2 = (-1)) && true))) = true then 3 else shGo l 0 (l.drop 1) (fun _ => none)
theorem drop1_getD {l : List EVal} {k : Nat} : (l.drop 1).getD k tVal.dflt = l.getD (k + 1) tVal.dflt := by
  rw [List.getD_eq_getElem?_getD, List.getD_eq_getElem?_getD, List.getElem?_drop, Nat.add_comm]
noncomputable def ocJk : Orc where
  pure := fun f args => match f, args with
    | 152, [a0, a1] => match dA (.slice tI) a0, dA tI a1 with
      | some x0, some x1 => some (.c (.bool (List.any x0 (isQ x1))))
      | _, _ => none
    | 153, [a0, a1] => match dA (.slice tVal) a0, dA tI a1 with
      | some x0, some x1 => some (.c (.ro tI (shNames x0 x1)))
      | _, _ => none
    | _, _ => none
  heap := fun _ _ _ => none
def shck_lv : LV := ⟨(true :: F2 (true :: F16 (false :: true :: true :: true :: F32 (F4 ([]))))), []⟩
noncomputable def shck_T (l : List EVal) : Tree :=
  .ite (decide ((100 : Int) < (l.length : Int)))
  (.ret (.c (.int .i64 2)) [])
  (.ite (decide ((l.length : Int) = 0))
   (.ret (.c (.int .i64 3)) [])
   (.need ((0 : Int) ≤ 0 ∧ (0 : Int) < (l.length : Int)) <|
    .need (0 < l.length) <|
    .ite ((!(decide ((l.getD 0 tVal.dflt).1 = (-1)) && (decide ((l.getD 0 tVal.dflt).2 = (-1)) && true))))
    (.ret (.c (.int .i64 3)) [])
    (.need (Tryz.prog = Tryz.prog) <|
     .need ((0 : Int) ≤ 1 ∧ (1 : Int) ≤ (l.length : Int)) <|
     .stop (lp (bodyOf Tryz.f101) 0) (.c (.ro tVal l) :: J2 (.c (.map 0) :: J16 (.junk :: .c (.ro tVal (l.drop 1)) :: .c (.int .i64 ((l.drop 1).length : Int)) :: .c (.int .i64 0) :: J32 (J4 ([]))))) [.map 51 tVal tI 0 (fun _ => none)])))
noncomputable def shck_l0_R (l : List EVal) (k : Nat) (n : Nat) (m : EVal → Option Int) : Tree :=
  .ite (decide (((k : Nat) : Int) < ((l.drop 1).length : Int)))
  (.need ((0 : Int) ≤ ((k : Nat) : Int) ∧ (((k : Nat) : Int) : Int) < ((l.drop 1).length : Int)) <|
   .need (k < (l.drop 1).length) <|
   .ite (decide (((l.drop 1).getD k tVal.dflt).1 < 0))
   (.ret (.c (.int .i64 3)) [.map 51 tVal tI n m, .cells 51 (Ty.enc tVal ((l.drop 1).getD k tVal.dflt))])
   (.ite (decide (((k : Nat) : Int) < ((l.drop 1).getD k tVal.dflt).1))
    (.ret (.c (.int .i64 3)) [.map 51 tVal tI n m, .cells 51 (Ty.enc tVal ((l.drop 1).getD k tVal.dflt))])
    (.ite (decide (((l.drop 1).getD k tVal.dflt).2 < 0))
     (.ret (.c (.int .i64 3)) [.map 51 tVal tI n m, .cells 51 (Ty.enc tVal ((l.drop 1).getD k tVal.dflt))])
     (.need (Tryz.prog = Tryz.prog ∧ MapLaw Tryz.prog 51 tVal) <|
      .ite (decide (((m ((l.drop 1).getD k tVal.dflt)).getD 0) = 1))
      (.ret (.c (.int .i64 3)) [.map 51 tVal tI n m, .cells 51 (Ty.enc tVal ((l.drop 1).getD k tVal.dflt))])
      (.call 153 [.c (.ro tVal l), .c (.int .i64 ((l.drop 1).getD k tVal.dflt).1)] false (.c (.ro tI (shNames l ((l.drop 1).getD k tVal.dflt).1))) <|
       .call 152 [.c (.ro tI (shNames l ((l.drop 1).getD k tVal.dflt).1)), .c (.int .i64 ((l.drop 1).getD k tVal.dflt).2)] false (.c (.bool (List.any (shNames l ((l.drop 1).getD k tVal.dflt).1) (isQ ((l.drop 1).getD k tVal.dflt).2)))) <|
       .ite (List.any (shNames l ((l.drop 1).getD k tVal.dflt).1) (isQ ((l.drop 1).getD k tVal.dflt).2))
       (.ret (.c (.int .i64 3)) [.map 51 tVal tI n m, .cells 51 (Ty.enc tVal ((l.drop 1).getD k tVal.dflt))])
       (.need (Tryz.prog = Tryz.prog ∧ MapLaw Tryz.prog 51 tVal ∧ n < 140737488355328) <|
        .need (inR .i64 (((k : Nat) : Int) + 1)) <|
        .stop (lp (bodyOf Tryz.f101) 0) (.c (.ro tVal l) :: J2 (.c (.map 0) :: J16 (.junk :: .c (.ro tVal (l.drop 1)) :: .c (.int .i64 ((l.drop 1).length : Int)) :: .c (.int .i64 (((k : Nat) : Int) + 1)) :: J32 (J4 ([]))))) [.map 51 tVal tI (n + 1) (updM (kt := tVal) m ((l.drop 1).getD k tVal.dflt) (1 : Int)), .cells 51 (Ty.enc tVal ((l.drop 1).getD k tVal.dflt))]))))))
  (.ret (.c (.int .i64 0)) [.map 51 tVal tI n m])
theorem shck_l0 (l : List EVal) (k : Nat) (n : Nat) (m : EVal → Option Int) (hb : l.length ≤ 100) (hu : upOk l k) (hn : n ≤ k) : Run Tryz.prog 101 (retQ Tryz.prog (.c (.int .i64 (shGo l k ((l.drop 1).drop k) m)))) (lp (bodyOf Tryz.f101) 0) (.c (.ro tVal l) :: J2 (.c (.map 0) :: J16 (.junk :: .c (.ro tVal (l.drop 1)) :: .c (.int .i64 ((l.drop 1).length : Int)) :: .c (.int .i64 ((k : Nat) : Int)) :: J32 (J4 ([]))))) [.map 51 tVal tI n m] :=
  Run.roundA ocJk shck_lv 3000 Tryz.func101 mixed (shck_l0_R l k n m) (by kernel_rfl) (by
    unfold shck_l0_R
    have hld : (l.drop 1).length = l.length - 1 := List.length_drop
    refine g_iteD (fun h0 => ?_) (fun h0 => ?_)
    · refine g_need (by omega) ?_
      refine g_need (by omega) ?_
      refine g_iteD (fun h1 => ?_) (fun h1 => ?_)
      · exact g_reti (by first | (rw [List.drop_eq_nil_of_le (by omega)]; rfl) | (rw [dropCons (α := EVal) (Ty.dflt tVal) (by omega), shGo, if_pos]; unfold shBad; simp only [h0, h1, true_or, or_true]))
      · refine g_iteD (fun h2 => ?_) (fun h2 => ?_)
        · exact g_reti (by first | (rw [List.drop_eq_nil_of_le (by omega)]; rfl) | (rw [dropCons (α := EVal) (Ty.dflt tVal) (by omega), shGo, if_pos]; unfold shBad; simp only [h0, h1, h2, true_or, or_true]))
        · refine g_iteD (fun h3 => ?_) (fun h3 => ?_)
          · exact g_reti (by first | (rw [List.drop_eq_nil_of_le (by omega)]; rfl) | (rw [dropCons (α := EVal) (Ty.dflt tVal) (by omega), shGo, if_pos]; unfold shBad; simp only [h0, h1, h2, h3, true_or, or_true]))
          · refine g_need (by first | omega | exact ⟨rfl, shapeKey⟩ | exact ⟨rfl, shapeKey, by omega⟩ | (rw [i64_iff]; omega) | (constructor <;> omega) | rfl) ?_
            refine g_iteD (fun h4 => ?_) (fun h4 => ?_)
            · exact g_reti (by first | (rw [List.drop_eq_nil_of_le (by omega)]; rfl) | (rw [dropCons (α := EVal) (Ty.dflt tVal) (by omega), shGo, if_pos]; unfold shBad; simp only [h0, h1, h2, h3, h4, true_or, or_true]))
            · refine g_call (names_fun l ((l.drop 1).getD k tVal.dflt).1 k (by omega) hu (by omega) (by omega) (by omega)) (fun h => nomatch h) ?_
              refine g_call (jIntC_fun (shNames l ((l.drop 1).getD k tVal.dflt).1) ((l.drop 1).getD k tVal.dflt).2) (fun h => nomatch h) ?_
              refine g_ite (fun h5 => ?_) (fun h5 => ?_)
              · exact g_reti (by first | (rw [List.drop_eq_nil_of_le (by omega)]; rfl) | (rw [dropCons (α := EVal) (Ty.dflt tVal) (by omega), shGo, if_pos]; unfold shBad; simp only [h0, h1, h2, h3, h4, h5, true_or, or_true]))
              · refine g_need (by first | omega | exact ⟨rfl, shapeKey⟩ | exact ⟨rfl, shapeKey, by omega⟩ | (rw [i64_iff]; omega) | (constructor <;> omega) | rfl) ?_
                refine g_need (by first | omega | exact ⟨rfl, shapeKey⟩ | exact ⟨rfl, shapeKey, by omega⟩ | (rw [i64_iff]; omega) | (constructor <;> omega) | rfl) ?_
                refine g_stop (RunN.keep [0] (true :: F2 (true :: F16 (false :: true :: true :: true :: F32 (F4 ([]))))) n0 (by decide) rfl rfl ?_)
                have hu' : upOk l (k + 1) := (fun j h1' h2' => by by_cases hj : j ≤ k; exact hu j h1' hj; have e : j = k + 1 := (by omega); subst e; have e2 := drop1_getD (l := l) (k := k); rw [e2] at h1 h2; exact ⟨by omega, by omega⟩); have ht := shck_l0 l (k + 1) (n + 1) (updM (kt := tVal) m ((l.drop 1).getD k tVal.dflt) (1 : Int)) hb hu' (by omega); rw [dropCons (α := EVal) (Ty.dflt tVal) (by omega), shGo, if_neg (by unfold shBad; simp only [h0, h1, h2, h3, h4, h5, false_or, or_false, Bool.false_eq_true, not_false_eq_true])]; exact ht
    · exact g_reti (by first | (rw [List.drop_eq_nil_of_le (by omega)]; rfl) | (rw [dropCons (α := EVal) (Ty.dflt tVal) (by omega), shGo, if_pos]; unfold shBad; simp only [h0, true_or, or_true]))
    )
  termination_by (l.drop 1).length - k
  decreasing_by all_goals omega
theorem shck_fun (l : List EVal) : AFun Tryz.prog 101 [.c (.ro tVal l)] (.c (.int .i64 (shCheck l))) :=
  AFun.of ocJk shck_lv 3000 Tryz.func101 mixed rfl (by decide) (Nat.le_of_ble_eq_true rfl) (shck_T l) (by kernel_rfl) fun hF => by
    unfold shck_T
    refine g_iteD (fun h0 => ?_) (fun h0 => ?_)
    · exact g_reti (by first | (rw [shCheck, if_pos (by assumption)]) | (rw [shCheck, if_neg (by assumption), if_pos (by assumption)]) | (rw [shCheck, if_neg (by assumption), if_neg (by assumption), if_pos (by assumption)]) | (rw [shCheck, if_neg h0, if_neg h1, if_pos (by rw [h2]; rfl)]))
    · refine g_iteD (fun h1 => ?_) (fun h1 => ?_)
      · exact g_reti (by first | (rw [shCheck, if_pos (by assumption)]) | (rw [shCheck, if_neg (by assumption), if_pos (by assumption)]) | (rw [shCheck, if_neg (by assumption), if_neg (by assumption), if_pos (by assumption)]) | (rw [shCheck, if_neg h0, if_neg h1, if_pos (by rw [h2]; rfl)]))
      · refine g_need (by omega) ?_
        refine g_need (by omega) ?_
        refine g_iteN (fun h2 => ?_) (fun h2 => ?_)
        · exact g_reti (by first | (rw [shCheck, if_pos (by assumption)]) | (rw [shCheck, if_neg (by assumption), if_pos (by assumption)]) | (rw [shCheck, if_neg (by assumption), if_neg (by assumption), if_pos (by assumption)]) | (rw [shCheck, if_neg h0, if_neg h1, if_pos (by rw [h2]; rfl)]))
        · refine g_need (rfl) ?_
          refine g_need (by first | omega | exact ⟨rfl, shapeKey⟩ | exact ⟨rfl, shapeKey, by omega⟩ | (rw [i64_iff]; omega) | (constructor <;> omega) | rfl) ?_
          refine g_stop (RunN.keep [0] (true :: F2 (true :: F16 (false :: true :: true :: true :: F32 (F4 ([]))))) n0 (by decide) rfl rfl ?_)
          have ht := shck_l0 l 0 0 (fun _ => none) (by omega) (fun j h1 h2 => by omega) (Nat.le_refl _); rw [shCheck, if_neg h0, if_neg h1, if_neg (by rw [h2]; decide)]; exact ht

/-- What is known behind the check. -/
theorem shGo_up {l : List EVal} : ∀ (r : List EVal) (k : Nat) (m : EVal → Option Int), r = (l.drop 1).drop k → upOk l k → shGo l k r m = 0 → upOk l (l.length - 1)
  | [], k, m, hr, hu, _ => fun j h1 h2 => hu j h1 (by have := congrArg List.length hr; simp at this; omega)
  | s :: r, k, m, hr, hu, h => by
    rw [shGo] at h
    split at h
    · cases h
    · rename_i hb
      unfold shBad at hb
      simp only [not_or] at hb
      have hk : k < (l.drop 1).length := by
        have := congrArg List.length hr; simp at this ⊢; omega
      have hs : s = (l.drop 1).getD k tVal.dflt ∧ r = (l.drop 1).drop (k + 1) := by
        rw [dropCons (α := EVal) (Ty.dflt tVal) hk] at hr
        injection hr with h1 h2
        exact ⟨h1, h2⟩
      refine shGo_up r (k + 1) _ hs.2 (fun j h1' h2' => ?_) h
      by_cases hj : j ≤ k
      · exact hu j h1' hj
      · obtain rfl : j = k + 1 := by omega
        rw [← drop1_getD, ← hs.1]
        exact ⟨by omega, by omega⟩
theorem shCheck_up {l : List EVal} (h : shCheck l = 0) : l.length ≤ 100 ∧ 0 < l.length ∧ upOk l (l.length - 1) := by
  unfold shCheck at h
  split at h
  · cases h
  · split at h
    · cases h
    · split at h
      · cases h
      · exact ⟨by omega, by omega, shGo_up _ 0 _ (by simp) (fun j h1 h2 => by omega) h⟩
def shNamesOf (l : List EVal) (s : Int) : List Int := if shCheck l ≠ 0 ∨ s < 0 ∨ (l.length : Int) ≤ s then [] else shNames l s
noncomputable def ocJm : Orc where
  pure := fun f args => match f, args with
    | 101, [a0] => match dA (.slice tVal) a0 with
      | some x0 => some (.c (.int .i64 (shCheck x0)))
      | _ => none
    | 153, [a0, a1] => match dA (.slice tVal) a0, dA tI a1 with
      | some x0, some x1 => some (.c (.ro tI (shNames x0 x1)))
      | _, _ => none
    | _, _ => none
  heap := fun _ _ _ => none
def shnm_lv : LV := ⟨([]), []⟩
noncomputable def shnm_T (l : List EVal) (s : Int) : Tree :=
  .call 101 [.c (.ro tVal l)] false (.c (.int .i64 (shCheck l))) <|
  .ite ((!(decide (shCheck l = 0))))
  (.ret (.c (.nilsl)) [])
  (.ite (decide (s < 0))
   (.ret (.c (.nilsl)) [])
   (.ite (decide ((l.length : Int) ≤ s))
    (.ret (.c (.nilsl)) [])
    (.call 153 [.c (.ro tVal l), .c (.int .i64 s)] false (.c (.ro tI (shNames l s))) <|
     .ret (.c (.ro tI (shNames l s))) [])))
theorem shnm_fun (l : List EVal) (s : Int) : AFun Tryz.prog 156 [.c (.ro tVal l), .c (.int .i64 s)] (.c (.ro tI (shNamesOf l s))) :=
  AFun.of ocJm shnm_lv 3000 Tryz.func156 mixed rfl (by decide) (Nat.le_of_ble_eq_true rfl) (shnm_T l s) (by kernel_rfl) fun hF => by
    unfold shnm_T
    refine g_call (shck_fun l) (fun h => nomatch h) ?_
    refine g_iteND (fun h0 => ?_) (fun h0 => ?_)
    · refine g_rq ?_
      exact g_rl ((show shNamesOf l s = [] from by first | (rw [shNamesOf, if_pos (by simp_all; done)]; done) | (rw [shNamesOf, if_pos (by omega)]; done) | (rw [shNamesOf, if_neg (by omega)]))) rfl
    · refine g_iteD (fun h1 => ?_) (fun h1 => ?_)
      · refine g_rq ?_
        exact g_rl ((show shNamesOf l s = [] from by first | (rw [shNamesOf, if_pos (by simp_all; done)]; done) | (rw [shNamesOf, if_pos (by omega)]; done) | (rw [shNamesOf, if_neg (by omega)]))) rfl
      · refine g_iteD (fun h2 => ?_) (fun h2 => ?_)
        · refine g_rq ?_
          exact g_rl ((show shNamesOf l s = [] from by first | (rw [shNamesOf, if_pos (by simp_all; done)]; done) | (rw [shNamesOf, if_pos (by omega)]; done) | (rw [shNamesOf, if_neg (by omega)]))) rfl
        · refine g_call (names_fun l s (l.length - 1) (by have := (shCheck_up h0).2.1; omega) (shCheck_up h0).2.2 (by omega) (by omega) (by have := (shCheck_up h0).1; omega)) (fun h => nomatch h) ?_
          refine g_rq ?_
          exact g_rl (⟨rfl, (show (shNames l s) = shNamesOf l s from by first | (rw [shNamesOf, if_pos (by simp_all; done)]; done) | (rw [shNamesOf, if_pos (by omega)]; done) | (rw [shNamesOf, if_neg (by omega)]))⟩) rfl

end Go.Proofs.YtkonkblfckhcbaaGreatDoor
namespace Go.Proofs.YtkonkblfckhcbaaGreatDoor
section
variable {P : Program} {S : List Item → List AV → List AB → Prop} {Q : AV → List AB → Prop} {α : Type} {F a b v : α} {X : Prop} {t e : Tree} {c : Prop} {k : Bool}
theorem e_start (h : F = v) (h' : F = v → Good P S Q t) : Good P S Q t := h' h
theorem e_D [Decidable c] (h : c → F = a → Good P S Q t) (h' : ¬ c → F = b → Good P S Q e) : F = (if c then a else b) → Good P S Q (.ite (decide c) t e) :=
 fun x => g_iteD (fun hc => h hc (x.trans (if_pos hc))) (fun hc => h' hc (x.trans (if_neg hc)))
theorem e_ND [Decidable c] (h : ¬ c → F = b → Good P S Q t) (h' : c → F = a → Good P S Q e) : F = (if c then a else b) → Good P S Q (.ite (!(decide c)) t e) :=
 fun x => g_iteND (fun hc => h hc (x.trans (if_neg hc))) (fun hc => h' hc (x.trans (if_pos hc)))
theorem e_B (h : k = true → F = a → Good P S Q t) (h' : k = false → F = b → Good P S Q e) : F = (if k = true then a else b) → Good P S Q (.ite k t e) :=
 fun x => g_ite (fun hc => h hc (x.trans (if_pos hc))) (fun hc => h' hc (x.trans (if_neg (by rw [hc]; decide))))
theorem e_NB (h : k = false → F = b → Good P S Q t) (h' : k = true → F = a → Good P S Q e) : F = (if k = true then a else b) → Good P S Q (.ite (!k) t e) :=
 fun x => g_iteN (fun hc => h hc (x.trans (if_neg (by rw [hc]; decide)))) (fun hc => h' hc (x.trans (if_pos hc)))
theorem e_Df [Decidable c] (hc : ¬ c) (h : X → Good P S Q e) : X → Good P S Q (.ite (decide c) t e) := fun x => g_iteD (fun h => absurd h hc) (fun _ => h x)
theorem e_need {p : Prop} (h : p) (h' : X → Good P S Q t) : X → Good P S Q (.need p t) := fun x => g_need h (h' x)
theorem e_call {f : Nat} {args : List AV} {fz : Bool} {r : AV} (h : AFun P f args r) (hz : (fz = true → r.flat = true)) (h' : X → Good P S Q t) : X → Good P S Q (.call f args fz r t) := fun x => g_call h hz (h' x)
theorem e_callH {f : Nat} {args : List AV} {H : List AB} {r : AV} {H' : List AB} {wr : List Nat} (h : AFunH P f args H r H' wr) (h' : X → Good P S Q t) : X → Good P S Q (.callH f args H r H' wr t) := fun x => g_callH h (h' x)
theorem e_rb {x y : Bool} {H : List AB} : x = y → Good P S (retQ P (.c (.bool x))) (.ret (.c (.bool y)) H) := fun h => g_retb h.symm
theorem e_rl {x y : Bool} {H : List AB} : x = y → Good P S (retQ P (.c (.bool x))) (.ret (.c (.lit y)) H) := fun h => g_retl h.symm
end
/-- A short word for the first names kept as they are. -/
theorem k1 : ∀ k, k < 1 → ([0] : List Nat)[k]? = some k := by decide
end Go.Proofs.YtkonkblfckhcbaaGreatDoor
namespace Go.Proofs.YtkonkblfckhcbaaGreatDoor
set_option linter.unusedVariables false
set_option linter.unusedSimpArgs false
open Go.RowKit
/-- Cells as data. -/
def dCs (t : Ty) (cs : List CV) : Option t.El := match t.dec cs with
 | some (x, []) => some x
 | _ => none
/-- A block as a map of given types. -/
def mapAs (k : TypeId) (kt et : Ty) : Option AB → Option (Nat × (kt.El → Option et.El))
 | some (.map k' kt' et' n m) => if h : kt' = kt ∧ et' = et then (if Nat.beq k' k then some (n, cast (by rw [h.1, h.2]) m) else none) else none
 | _ => none
end Go.Proofs.YtkonkblfckhcbaaGreatDoor
