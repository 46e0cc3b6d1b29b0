/- What the laws' texts lean on, part 5: lemmas and the contracts of functions. No condition. -/
import Derived.Test.YtefkifdhjabdiaaDoorF3
import Derived.Test.YtefkifdhjabdiaaDoorF1
import Derived.Test.YtefkifdhjabdiaaDoorF2
namespace Go.Proofs.YtefkifdhjabdiaaDoor
set_option maxHeartbeats 4000000
set_option linter.unusedVariables false
set_option linter.unusedSimpArgs false
set_option maxRecDepth 100000
abbrev tLook : Ty := .pair tProg tFn
abbrev ELook := EProg × EFn
def lkE (l : ELook) : Lk := ⟨l.1.1.length, l.1.2.1.length, l.1.2.2.length, l.2.2.1, l.2.2.2.2.1.length, l.2.2.2.2.2.length⟩
def namesI (l : ELook) (c n : Int) : Bool :=
  if c = 114 then withinF n 0 (l.2.2.1 - 1)
  else if c = 107 then withinF n 0 ((l.1.2.1.length : Int) - 1)
  else if c = 116 then withinF n 0 ((l.1.2.2.length : Int) - 1)
  else if c = 97 then withinF n 0 ((l.2.2.2.2.2.length : Int) - 1)
  else if c = 117 then withinF n 0 ((l.2.2.2.2.1.length : Int) - 1)
  else if c = 102 then withinF n 1 ((l.1.1.length : Int) - 1)
  else if c = 108 then withinF n 0 l.2.2.1 else if c = 99 then withinF n 0 l.2.2.1 else if c = 110 then withinF n 0 l.2.2.1
  else decide (n = 0)
theorem u8_eq (c : UInt8) (k : Nat) (hk : k < 256) : ((c.toNat : Int) = (k : Int)) ↔ c = UInt8.ofNat k := by
  constructor
  · intro h
    apply UInt8.toNat_inj.1
    rw [UInt8.toNat_ofNat', Nat.mod_eq_of_lt hk]; omega
  · intro h; rw [h, UInt8.toNat_ofNat', Nat.mod_eq_of_lt hk]
theorem namesI_eq (l : ELook) (c : UInt8) (n : Int) : namesI l (c.toNat : Int) n = namesF (lkE l) c n := by
  have e : ∀ k : Nat, k < 256 → (((c.toNat : Int) = (k : Int)) ↔ c = UInt8.ofNat k) := u8_eq c
  have e1 := e 114 (by omega)
  have e2 := e 107 (by omega)
  have e3 := e 116 (by omega)
  have e4 := e 97 (by omega)
  have e5 := e 117 (by omega)
  have e6 := e 102 (by omega)
  have e7 := e 108 (by omega)
  have e8 := e 99 (by omega)
  have e9 := e 110 (by omega)
  unfold namesI namesF lkE
  simp only [show ((c.toNat : Int) = 114) ↔ c = 114 from e1, show ((c.toNat : Int) = 107) ↔ c = 107 from e2, show ((c.toNat : Int) = 116) ↔ c = 116 from e3, show ((c.toNat : Int) = 97) ↔ c = 97 from e4, show ((c.toNat : Int) = 117) ↔ c = 117 from e5, show ((c.toNat : Int) = 102) ↔ c = 102 from e6, show ((c.toNat : Int) = 108) ↔ c = 108 from e7, show ((c.toNat : Int) = 99) ↔ c = 99 from e8, show ((c.toNat : Int) = 110) ↔ c = 110 from e9]
  by_cases h7 : c = 108
  · simp [h7]
  · by_cases h8 : c = 99
    · simp [h8]
    · simp [h7, h8]
noncomputable def oc40 : Orc where
  pure := fun f args => match f, args with
    | _, _ => none
  heap := fun _ _ _ => none
def within_lv : LV := ⟨([]), []⟩
noncomputable def within_T (n : Int) (a : Int) (b : Int) : Tree :=
  .ite (decide (a ≤ n))
  (.ret (.c (.bool (decide (n ≤ b)))) [])
  (.ret (.c (.lit false)) [])
theorem within_T_ok (n : Int) (a : Int) (b : Int) : aRun Tryd.prog oc40 Tryd.f145 within_lv 3000 [.code (bodyOf Tryd.f145)] ([.c (.int .i64 n), .c (.int .i64 a), .c (.int .i64 b)] ++ List.replicate (Func.ntmps Tryd.f145 - 3) .junk) [] = within_T n a b := by kernel_rfl
theorem within_fun (n : Int) (a : Int) (b : Int) : AFun Tryd.prog 145 [.c (.int .i64 n), .c (.int .i64 a), .c (.int .i64 b)] (.c (.bool (withinF n a b))) :=
  AFun.of oc40 within_lv 3000 Tryd.func145 mixed rfl (by decide) (Nat.le_of_ble_eq_true rfl) _ (within_T_ok n a b) fun hF => by
    unfold within_T
    refine g_iteD (fun h0 => ?_) (fun h0 => ?_)
    · exact g_retb (by simp only [withinF, h0, if_true, if_false, Int.reduceEq, reduceIte, decide_true, decide_false, Bool.and_true, Bool.and_false, Bool.true_and, Bool.false_and])
    · exact g_retl (by simp only [withinF, h0, if_true, if_false, Int.reduceEq, reduceIte, decide_true, decide_false, Bool.and_true, Bool.and_false, Bool.true_and, Bool.false_and])

noncomputable def oc41 : Orc where
  pure := fun f args => match f, args with
    | 145, [a0, a1, a2] => match dA tI a0, dA tI a1, dA tI a2 with
      | some x0, some x1, some x2 => some (.c (.bool (withinF x0 x1 x2)))
      | _, _, _ => none
    | _, _ => none
  heap := fun _ _ _ => none
def lreg_lv : LV := ⟨([]), []⟩
noncomputable def lreg_T (l : ELook) (n : Int) : Tree :=
  .need (inR .i64 (l.2.2.1 - 1)) <|
  .call 145 [.c (.int .i64 n), .c (.int .i64 0), .c (.int .i64 (l.2.2.1 - 1))] false (.c (.bool (withinF n 0 (l.2.2.1 - 1)))) <|
  .ret (.c (.bool (withinF n 0 (l.2.2.1 - 1)))) [.cells 187 (Ty.enc tLook l)]
theorem lreg_T_ok (l : ELook) (n : Int) : aRun Tryd.prog oc41 Tryd.f147 lreg_lv 3000 [.code (bodyOf Tryd.f147)] ([.agg (tLook.enc l), .c (.int .i64 n)] ++ List.replicate (Func.ntmps Tryd.f147 - 2) .junk) [] = lreg_T l n := by kernel_rfl
theorem lreg_fun (l : ELook) (n : Int) (hr : 0 ≤ l.2.2.1) : AFun Tryd.prog 147 [.agg (tLook.enc l), .c (.int .i64 n)] (.c (.bool (withinF n 0 (l.2.2.1 - 1)))) :=
  AFun.of oc41 lreg_lv 3000 Tryd.func147 mixed rfl (by decide) (Nat.le_of_ble_eq_true rfl) _ (lreg_T_ok l n) fun hF => by
    have hb := i64_iff.1 hF.agg.1.2.2.1
    unfold lreg_T
    refine g_need (i64_iff.2 (by omega)) ?_
    refine g_call (within_fun n 0 (l.2.2.1 - 1)) (fun h => nomatch h) ?_
    exact g_retb (by rfl)

noncomputable def oc42 : Orc where
  pure := fun f args => match f, args with
    | 145, [a0, a1, a2] => match dA tI a0, dA tI a1, dA tI a2 with
      | some x0, some x1, some x2 => some (.c (.bool (withinF x0 x1 x2)))
      | _, _, _ => none
    | _, _ => none
  heap := fun _ _ _ => none
def ltext_lv : LV := ⟨([]), []⟩
noncomputable def ltext_T (l : ELook) (n : Int) : Tree :=
  .need (inR .i64 ((l.1.2.2.length : Int) - 1)) <|
  .call 145 [.c (.int .i64 n), .c (.int .i64 0), .c (.int .i64 ((l.1.2.2.length : Int) - 1))] false (.c (.bool (withinF n 0 ((l.1.2.2.length : Int) - 1)))) <|
  .ret (.c (.bool (withinF n 0 ((l.1.2.2.length : Int) - 1)))) [.cells 187 (Ty.enc tLook l)]
theorem ltext_T_ok (l : ELook) (n : Int) : aRun Tryd.prog oc42 Tryd.f161 ltext_lv 3000 [.code (bodyOf Tryd.f161)] ([.agg (tLook.enc l), .c (.int .i64 n)] ++ List.replicate (Func.ntmps Tryd.f161 - 2) .junk) [] = ltext_T l n := by kernel_rfl
theorem ltext_fun (l : ELook) (n : Int) : AFun Tryd.prog 161 [.agg (tLook.enc l), .c (.int .i64 n)] (.c (.bool (withinF n 0 ((l.1.2.2.length : Int) - 1)))) :=
  AFun.of oc42 ltext_lv 3000 Tryd.func161 mixed rfl (by decide) (Nat.le_of_ble_eq_true rfl) _ (ltext_T_ok l n) fun hF => by
    have hb := hF.agg.1.1.2.2.1
    unfold ltext_T
    refine g_need (i64_iff.2 (by omega)) ?_
    refine g_call (within_fun n 0 ((l.1.2.2.length : Int) - 1)) (fun h => nomatch h) ?_
    exact g_retb (by rfl)

noncomputable def oc43 : Orc where
  pure := fun f args => match f, args with
    | 145, [a0, a1, a2] => match dA tI a0, dA tI a1, dA tI a2 with
      | some x0, some x1, some x2 => some (.c (.bool (withinF x0 x1 x2)))
      | _, _, _ => none
    | _, _ => none
  heap := fun _ _ _ => none
def lat_lv : LV := ⟨([]), []⟩
noncomputable def lat_T (l : ELook) (n : Int) : Tree :=
  .need (inR .i64 ((l.2.2.2.2.2.length : Int) - 1)) <|
  .call 145 [.c (.int .i64 n), .c (.int .i64 0), .c (.int .i64 ((l.2.2.2.2.2.length : Int) - 1))] false (.c (.bool (withinF n 0 ((l.2.2.2.2.2.length : Int) - 1)))) <|
  .ret (.c (.bool (withinF n 0 ((l.2.2.2.2.2.length : Int) - 1)))) [.cells 187 (Ty.enc tLook l)]
theorem lat_T_ok (l : ELook) (n : Int) : aRun Tryd.prog oc43 Tryd.f162 lat_lv 3000 [.code (bodyOf Tryd.f162)] ([.agg (tLook.enc l), .c (.int .i64 n)] ++ List.replicate (Func.ntmps Tryd.f162 - 2) .junk) [] = lat_T l n := by kernel_rfl
theorem lat_fun (l : ELook) (n : Int) : AFun Tryd.prog 162 [.agg (tLook.enc l), .c (.int .i64 n)] (.c (.bool (withinF n 0 ((l.2.2.2.2.2.length : Int) - 1)))) :=
  AFun.of oc43 lat_lv 3000 Tryd.func162 mixed rfl (by decide) (Nat.le_of_ble_eq_true rfl) _ (lat_T_ok l n) fun hF => by
    have hb := hF.agg.1.2.2.2.2.2.1
    unfold lat_T
    refine g_need (i64_iff.2 (by omega)) ?_
    refine g_call (within_fun n 0 ((l.2.2.2.2.2.length : Int) - 1)) (fun h => nomatch h) ?_
    exact g_retb (by rfl)

noncomputable def oc44 : Orc where
  pure := fun f args => match f, args with
    | 145, [a0, a1, a2] => match dA tI a0, dA tI a1, dA tI a2 with
      | some x0, some x1, some x2 => some (.c (.bool (withinF x0 x1 x2)))
      | _, _, _ => none
    | 147, [a0, a1] => match dA tLook a0, dA tI a1 with
      | some x0, some x1 => some (.c (.bool (withinF x1 0 (x0.2.2.1 - 1))))
      | _, _ => none
    | 161, [a0, a1] => match dA tLook a0, dA tI a1 with
      | some x0, some x1 => some (.c (.bool (withinF x1 0 ((x0.1.2.2.length : Int) - 1))))
      | _, _ => none
    | 162, [a0, a1] => match dA tLook a0, dA tI a1 with
      | some x0, some x1 => some (.c (.bool (withinF x1 0 ((x0.2.2.2.2.2.length : Int) - 1))))
      | _, _ => none
    | _, _ => none
  heap := fun _ _ _ => none
def lnames_lv : LV := ⟨([]), []⟩
noncomputable def lnames_T (l : ELook) (c : Int) (n : Int) : Tree :=
  .ite (decide (c = 114))
  (.call 147 [.agg (Ty.enc tLook l), .c (.int .i64 n)] false (.c (.bool (withinF n 0 (l.2.2.1 - 1)))) <|
   .ret (.c (.bool (withinF n 0 (l.2.2.1 - 1)))) [.cells 187 (Ty.enc tLook l)])
  (.ite (decide (c = 107))
   (.need (inR .i64 ((l.1.2.1.length : Int) - 1)) <|
    .call 145 [.c (.int .i64 n), .c (.int .i64 0), .c (.int .i64 ((l.1.2.1.length : Int) - 1))] false (.c (.bool (withinF n 0 ((l.1.2.1.length : Int) - 1)))) <|
    .ret (.c (.bool (withinF n 0 ((l.1.2.1.length : Int) - 1)))) [.cells 187 (Ty.enc tLook l)])
   (.ite (decide (c = 116))
    (.call 161 [.agg (Ty.enc tLook l), .c (.int .i64 n)] false (.c (.bool (withinF n 0 ((l.1.2.2.length : Int) - 1)))) <|
     .ret (.c (.bool (withinF n 0 ((l.1.2.2.length : Int) - 1)))) [.cells 187 (Ty.enc tLook l)])
    (.ite (decide (c = 97))
     (.call 162 [.agg (Ty.enc tLook l), .c (.int .i64 n)] false (.c (.bool (withinF n 0 ((l.2.2.2.2.2.length : Int) - 1)))) <|
      .ret (.c (.bool (withinF n 0 ((l.2.2.2.2.2.length : Int) - 1)))) [.cells 187 (Ty.enc tLook l)])
     (.ite (decide (c = 117))
      (.need (inR .i64 ((l.2.2.2.2.1.length : Int) - 1)) <|
       .call 145 [.c (.int .i64 n), .c (.int .i64 0), .c (.int .i64 ((l.2.2.2.2.1.length : Int) - 1))] false (.c (.bool (withinF n 0 ((l.2.2.2.2.1.length : Int) - 1)))) <|
       .ret (.c (.bool (withinF n 0 ((l.2.2.2.2.1.length : Int) - 1)))) [.cells 187 (Ty.enc tLook l)])
      (.ite (decide (c = 102))
       (.need (inR .i64 ((l.1.1.length : Int) - 1)) <|
        .call 145 [.c (.int .i64 n), .c (.int .i64 1), .c (.int .i64 ((l.1.1.length : Int) - 1))] false (.c (.bool (withinF n 1 ((l.1.1.length : Int) - 1)))) <|
        .ret (.c (.bool (withinF n 1 ((l.1.1.length : Int) - 1)))) [.cells 187 (Ty.enc tLook l)])
       (.ite (decide (c = 108))
        (.ite (decide (c = 108))
         (.call 145 [.c (.int .i64 n), .c (.int .i64 0), .c (.int .i64 l.2.2.1)] false (.c (.bool (withinF n 0 l.2.2.1))) <|
          .ret (.c (.bool (withinF n 0 l.2.2.1))) [.cells 187 (Ty.enc tLook l)])
         (.ret (.c (.bool (decide (n = 0)))) [.cells 187 (Ty.enc tLook l)]))
        (.ite (decide (c = 99))
         (.ite (decide (c = 99))
          (.call 145 [.c (.int .i64 n), .c (.int .i64 0), .c (.int .i64 l.2.2.1)] false (.c (.bool (withinF n 0 l.2.2.1))) <|
           .ret (.c (.bool (withinF n 0 l.2.2.1))) [.cells 187 (Ty.enc tLook l)])
          (.ret (.c (.bool (decide (n = 0)))) [.cells 187 (Ty.enc tLook l)]))
         (.ite (decide (c = 110))
          (.call 145 [.c (.int .i64 n), .c (.int .i64 0), .c (.int .i64 l.2.2.1)] false (.c (.bool (withinF n 0 l.2.2.1))) <|
           .ret (.c (.bool (withinF n 0 l.2.2.1))) [.cells 187 (Ty.enc tLook l)])
          (.ret (.c (.bool (decide (n = 0)))) [.cells 187 (Ty.enc tLook l)])))))))))
theorem lnames_T_ok (l : ELook) (c : Int) (n : Int) : aRun Tryd.prog oc44 Tryd.f146 lnames_lv 3000 [.code (bodyOf Tryd.f146)] ([.agg (tLook.enc l), .c (.int .u8 c), .c (.int .i64 n)] ++ List.replicate (Func.ntmps Tryd.f146 - 3) .junk) [] = lnames_T l c n := by kernel_rfl
theorem lnames_fun (l : ELook) (c : Int) (n : Int) (hr : 0 ≤ l.2.2.1) : AFun Tryd.prog 146 [.agg (tLook.enc l), .c (.int .u8 c), .c (.int .i64 n)] (.c (.bool (namesI l c n))) :=
  AFun.of oc44 lnames_lv 3000 Tryd.func146 mixed rfl (by decide) (Nat.le_of_ble_eq_true rfl) _ (lnames_T_ok l c n) fun hF => by
    have hb := hF.agg.1.2.2.2.2.2.1
    have hb2 := hF.agg.1.1.2.2.1
    have hb3 := hF.agg.1.1.2.1.1
    have hb4 := hF.agg.1.1.1.1
    have hb5 := hF.agg.1.2.2.2.2.1.1
    unfold lnames_T
    refine g_iteD (fun h0 => ?_) (fun h0 => ?_)
    · refine g_call (lreg_fun l n (by omega)) (fun h => nomatch h) ?_
      exact g_retb (by simp only [namesI, h0, if_true, if_false, Int.reduceEq, reduceIte])
    · refine g_iteD (fun h1 => ?_) (fun h1 => ?_)
      · refine g_need (i64_iff.2 (by omega)) ?_
        refine g_call (within_fun n 0 ((l.1.2.1.length : Int) - 1)) (fun h => nomatch h) ?_
        exact g_retb (by simp only [namesI, h0, h1, if_true, if_false, Int.reduceEq, reduceIte])
      · refine g_iteD (fun h2 => ?_) (fun h2 => ?_)
        · refine g_call (ltext_fun l n) (fun h => nomatch h) ?_
          exact g_retb (by simp only [namesI, h0, h1, h2, if_true, if_false, Int.reduceEq, reduceIte])
        · refine g_iteD (fun h3 => ?_) (fun h3 => ?_)
          · refine g_call (lat_fun l n) (fun h => nomatch h) ?_
            exact g_retb (by simp only [namesI, h0, h1, h2, h3, if_true, if_false, Int.reduceEq, reduceIte])
          · refine g_iteD (fun h4 => ?_) (fun h4 => ?_)
            · refine g_need (i64_iff.2 (by omega)) ?_
              refine g_call (within_fun n 0 ((l.2.2.2.2.1.length : Int) - 1)) (fun h => nomatch h) ?_
              exact g_retb (by simp only [namesI, h0, h1, h2, h3, h4, if_true, if_false, Int.reduceEq, reduceIte])
            · refine g_iteD (fun h5 => ?_) (fun h5 => ?_)
              · refine g_need (i64_iff.2 (by omega)) ?_
                refine g_call (within_fun n 1 ((l.1.1.length : Int) - 1)) (fun h => nomatch h) ?_
                exact g_retb (by simp only [namesI, h0, h1, h2, h3, h4, h5, if_true, if_false, Int.reduceEq, reduceIte])
              · refine g_iteD (fun h6 => ?_) (fun h6 => ?_)
                · refine g_iteD (fun h7 => ?_) (fun h7 => ?_)
                  · refine g_call (within_fun n 0 l.2.2.1) (fun h => nomatch h) ?_
                    exact g_retb (by simp only [namesI, h0, h1, h2, h3, h4, h5, h6, h7, if_true, if_false, Int.reduceEq, reduceIte])
                  · exact g_retb (by exfalso; omega)
                · refine g_iteD (fun h7 => ?_) (fun h7 => ?_)
                  · refine g_iteD (fun h8 => ?_) (fun h8 => ?_)
                    · refine g_call (within_fun n 0 l.2.2.1) (fun h => nomatch h) ?_
                      exact g_retb (by simp only [namesI, h0, h1, h2, h3, h4, h5, h6, h7, h8, if_true, if_false, Int.reduceEq, reduceIte])
                    · exact g_retb (by exfalso; omega)
                  · refine g_iteD (fun h8 => ?_) (fun h8 => ?_)
                    · refine g_call (within_fun n 0 l.2.2.1) (fun h => nomatch h) ?_
                      exact g_retb (by simp only [namesI, h0, h1, h2, h3, h4, h5, h6, h7, h8, if_true, if_false, Int.reduceEq, reduceIte])
                    · exact g_retb (by simp only [namesI, h0, h1, h2, h3, h4, h5, h6, h7, h8, if_true, if_false, Int.reduceEq, reduceIte])

noncomputable def oc45 : Orc where
  pure := fun f args => match f, args with
    | 145, [a0, a1, a2] => match dA tI a0, dA tI a1, dA tI a2 with
      | some x0, some x1, some x2 => some (.c (.bool (withinF x0 x1 x2)))
      | _, _, _ => none
    | 147, [a0, a1] => match dA tLook a0, dA tI a1 with
      | some x0, some x1 => some (.c (.bool (withinF x1 0 (x0.2.2.1 - 1))))
      | _, _ => none
    | _, _ => none
  heap := fun _ _ _ => none
def lc1_lv : LV := ⟨([]), []⟩
noncomputable def lc1_T (c : Int) (l : ELook) (f : EFn) : Tree :=
  .call 147 [.agg (Ty.enc tLook l), .c (.int .i64 c)] false (.c (.bool (withinF c 0 (l.2.2.1 - 1)))) <|
  .ite ((!(withinF c 0 (l.2.2.1 - 1))))
  (.need (inR .i64 (0 - (l.2.2.2.2.1.length : Int))) <|
   .call 145 [.c (.int .i64 c), .c (.int .i64 (0 - (l.2.2.2.2.1.length : Int))), .c (.int .i64 (-1))] false (.c (.bool (withinF c (0 - (l.2.2.2.2.1.length : Int)) (-1)))) <|
   .ret (.c (.bool (!(withinF c (0 - (l.2.2.2.2.1.length : Int)) (-1))))) [.cells 187 (Ty.enc tLook l), .cells 84 (Ty.enc tFn f)])
  (.ret (.c (.lit false)) [.cells 187 (Ty.enc tLook l), .cells 84 (Ty.enc tFn f)])
theorem lc1_T_ok (c : Int) (l : ELook) (f : EFn) : aRun Tryd.prog oc45 Tryd.f163 lc1_lv 3000 [.code (bodyOf Tryd.f163)] ([.c (.int .i64 c), .c (.ptr 0 0 0 0)] ++ List.replicate (Func.ntmps Tryd.f163 - 2) .junk) [.cells 187 (Ty.enc tLook l), .cells 84 (Ty.enc tFn f)] = lc1_T c l f := by kernel_rfl
theorem lc1_fun (c : Int) (l : ELook) (f : EFn) (hr : 0 ≤ l.2.2.1) : AFunH Tryd.prog 163 [.c (.int .i64 c), .c (.ptr 0 0 0 0)] [.cells 187 (Ty.enc tLook l), .cells 84 (Ty.enc tFn f)] (.c (.bool ((!withinF c 0 (l.2.2.1 - 1) && !withinF c (-(l.2.2.2.2.1.length : Int)) (-1))))) [.cells 187 (Ty.enc tLook l), .cells 84 (Ty.enc tFn f)] (List.range 2) :=
  AFunH.of oc45 lc1_lv 3000 Tryd.func163 mixed rfl (by decide) (Nat.le_of_ble_eq_true rfl) rfl rfl (Nat.le_refl _) _ (lc1_T_ok c l f) fun hF => by
    have hb : (l.2.2.2.2.1.length : Int) ≤ 9223372036854775807 := by have q := hF.blk (b := 0) (t := tLook) (x := l) rfl; have q2 := q.2.2.2.2.1.1; omega
    unfold lc1_T
    refine g_call (lreg_fun l c (by omega)) (fun h => nomatch h) ?_
    refine g_iteN (fun h0 => ?_) (fun h0 => ?_)
    · refine g_need (i64_iff.2 (by omega)) ?_
      refine g_call (within_fun c (0 - (l.2.2.2.2.1.length : Int)) (-1)) (fun h => nomatch h) ?_
      exact g_rh [0, 1] (show ∀ k, k < 2 → ([0, 1] : List Nat)[k]? = some k by decide) (by decide) (by simp only [renA, ren1, renC, leAV, leA1, leC]; simp_all) rfl
    · exact g_rh [0, 1] (show ∀ k, k < 2 → ([0, 1] : List Nat)[k]? = some k by decide) (by decide) (by simp only [renA, ren1, renC, leAV, leA1, leC]; simp_all) rfl

def fstF (q : Int → Bool) : Nat → List Int → Int
  | _, [] => -1
  | i, f :: r => if q f = true then (i : Int) else fstF q (i + 1) r
theorem fstF_ge {q : Int → Bool} : ∀ {l : List Int} {i : Nat}, decide (0 ≤ fstF q i l) = l.any q
  | [], i => rfl
  | f :: r, i => by
    unfold fstF
    rw [List.any_cons]
    split
    · rename_i h; rw [h]; simp
    · rename_i h; rw [fstF_ge (l := r)]; simp only [Bool.not_eq_true] at h; rw [h]; rfl
def outB (l : ELook) (c : Int) : Bool := !withinF c 0 (l.2.2.1 - 1) && !withinF c (-(l.2.2.2.2.1.length : Int)) (-1)
noncomputable def oc46 : Orc where
  pure := fun f args => match f, args with
    | _, _ => none
  heap := fun f args H => match f, args with
    | 163, [a0, .one (.c (.ptr 0 0 0 0))] => match H with
      | [b0, b1] => (match dA tI a0, dB 187 tLook b0, dB 84 tFn b1 with
        | some x0, some y0, some y1 => some (.c (.bool ((!withinF x0 0 (y0.2.2.1 - 1) && !withinF x0 (-(y0.2.2.2.2.1.length : Int)) (-1)))), [b0, b1], List.range 2)
        | _, _, _ => none)
      | _ => none
    | _, _ => none
def idxC_lv : LV := ⟨(true :: true :: F4 (false :: true :: true :: F8 (F2 ([])))), []⟩
noncomputable def idxC_T (xs : List Int) (l : ELook) (f : EFn) : Tree :=
  .stop (lp (bodyOf Tryd.f93) 0) (.c (.ro tI xs) :: .c (.fnc (.fn0 163) (.ptr 0 0 0 0)) :: J4 (.junk :: .c (.int .i64 (xs.length : Int)) :: .c (.int .i64 0) :: J8 (J2 ([])))) [.cells 187 (Ty.enc tLook l), .cells 84 (Ty.enc tFn f)]
theorem idxC_T_ok (xs : List Int) (l : ELook) (f : EFn) : aRun Tryd.prog oc46 Tryd.f93 idxC_lv 3000 [.code (bodyOf Tryd.f93)] ([.c (.ro tI xs), .c (.fnc (.fn0 163) (.ptr 0 0 0 0))] ++ List.replicate (Func.ntmps Tryd.f93 - 2) .junk) [.cells 187 (Ty.enc tLook l), .cells 84 (Ty.enc tFn f)] = idxC_T xs l f := by kernel_rfl
noncomputable def idxC_l0_R (xs : List Int) (l : ELook) (f : EFn) (i : Nat) : Tree :=
  .ite (decide (((i : Nat) : Int) < (xs.length : Int)))
  (.need ((0 : Int) ≤ ((i : Nat) : Int) ∧ (((i : Nat) : Int) : Int) < (xs.length : Int)) <|
   .need (i < xs.length) <|
   .callH 163 [.c (.int .i64 (xs.getD i tI.dflt)), .c (.ptr 0 0 0 0)] [.cells 187 (Ty.enc tLook l), .cells 84 (Ty.enc tFn f)] (.c (.bool (!withinF (xs.getD i tI.dflt) 0 (l.2.2.1 - 1) && !withinF (xs.getD i tI.dflt) (-(l.2.2.2.2.1.length : Int)) (-1)))) [.cells 187 (Ty.enc tLook l), .cells 84 (Ty.enc tFn f)] [0, 1] <|
   .ite ((!withinF (xs.getD i tI.dflt) 0 (l.2.2.1 - 1) && !withinF (xs.getD i tI.dflt) (-(l.2.2.2.2.1.length : Int)) (-1)))
   (.ret (.c (.int .i64 ((i : Nat) : Int))) [.cells 187 (Ty.enc tLook l), .cells 84 (Ty.enc tFn f)])
   (.need (inR .i64 (((i : Nat) : Int) + 1)) <|
    .stop (lp (bodyOf Tryd.f93) 0) (.c (.ro tI xs) :: .c (.fnc (.fn0 163) (.ptr 0 0 0 0)) :: J4 (.junk :: .c (.int .i64 (xs.length : Int)) :: .c (.int .i64 (((i : Nat) : Int) + 1)) :: J8 (J2 ([])))) [.cells 187 (Ty.enc tLook l), .cells 84 (Ty.enc tFn f)]))
  (.ret (.c (.int .i64 (-1))) [.cells 187 (Ty.enc tLook l), .cells 84 (Ty.enc tFn f)])
theorem idxC_l0_R_ok (xs : List Int) (l : ELook) (f : EFn) (i : Nat) : aRound Tryd.prog oc46 Tryd.f93 idxC_lv 3000 (lp (bodyOf Tryd.f93) 0) (.c (.ro tI xs) :: .c (.fnc (.fn0 163) (.ptr 0 0 0 0)) :: J4 (.junk :: .c (.int .i64 (xs.length : Int)) :: .c (.int .i64 ((i : Nat) : Int)) :: J8 (J2 ([])))) [.cells 187 (Ty.enc tLook l), .cells 84 (Ty.enc tFn f)] = idxC_l0_R xs l f i := by kernel_rfl
theorem idxC_l0 (xs : List Int) (l : ELook) (f : EFn) (i : Nat) (hl : xs.length ≤ 9223372036854775807) (hr : 0 ≤ l.2.2.1) : RunN 2 Tryd.prog 93 (retH 2 (.c (.int .i64 (fstF (outB l) i (xs.drop i)))) [.cells 187 (Ty.enc tLook l), .cells 84 (Ty.enc tFn f)]) (lp (bodyOf Tryd.f93) 0) (.c (.ro tI xs) :: .c (.fnc (.fn0 163) (.ptr 0 0 0 0)) :: J4 (.junk :: .c (.int .i64 (xs.length : Int)) :: .c (.int .i64 ((i : Nat) : Int)) :: J8 (J2 ([])))) [.cells 187 (Ty.enc tLook l), .cells 84 (Ty.enc tFn f)] :=
  Run.roundA oc46 idxC_lv 3000 Tryd.func93 mixed (idxC_l0_R xs l f i) (idxC_l0_R_ok xs l f i) (by
    unfold idxC_l0_R
    refine g_iteD (fun h0 => ?_) (fun h0 => ?_)
    · refine g_need (by omega) ?_
      refine g_need (by omega) ?_
      refine g_callH (lc1_fun (xs.getD i tI.dflt) l f hr) ?_
      refine g_ite (fun h1 => ?_) (fun h1 => ?_)
      · exact g_rh [0, 1] (show ∀ k, k < 2 → ([0, 1] : List Nat)[k]? = some k by decide) (by decide) (by simp only [renA, ren1, renC, leAV, leA1, leC]; refine ⟨trivial, ?_⟩; first | (rw [dropCons (α := Int) (Ty.dflt tI) (by omega)]; simp only [fstF, outB, h0, h1, if_true]; done) | (rw [List.drop_eq_nil_of_le (by omega)]; rfl)) rfl
      · refine g_need (i64_iff.2 (by omega)) ?_
        refine g_stop (RunN.keep [0, 1] (true :: true :: F4 (false :: true :: true :: F8 (F2 ([])))) (show ∀ k, k < 2 → ([0, 1] : List Nat)[k]? = some k by decide) (by decide) rfl rfl ?_)
        have := idxC_l0 xs l f (i + 1) hl hr; rw [dropCons (α := Int) (Ty.dflt tI) (by omega)]; simp only [fstF, outB, h0, h1, if_false, Bool.false_eq_true]; exact this
    · exact g_rh [0, 1] (show ∀ k, k < 2 → ([0, 1] : List Nat)[k]? = some k by decide) (by decide) (by simp only [renA, ren1, renC, leAV, leA1, leC]; refine ⟨trivial, ?_⟩; first | (rw [dropCons (α := Int) (Ty.dflt tI) (by omega)]; simp only [fstF, outB, h0, if_true]; done) | (rw [List.drop_eq_nil_of_le (by omega)]; rfl)) rfl
    )
  termination_by xs.length - i
  decreasing_by all_goals omega
theorem idxC_fun (xs : List Int) (l : ELook) (f : EFn) (hr : 0 ≤ l.2.2.1) : AFunH Tryd.prog 93 [.c (.ro tI xs), .c (.fnc (.fn0 163) (.ptr 0 0 0 0))] [.cells 187 (Ty.enc tLook l), .cells 84 (Ty.enc tFn f)] (.c (.int .i64 (fstF (outB l) 0 xs))) [.cells 187 (Ty.enc tLook l), .cells 84 (Ty.enc tFn f)] (List.range 2) :=
  AFunH.of oc46 idxC_lv 3000 Tryd.func93 mixed rfl (by decide) (Nat.le_of_ble_eq_true rfl) rfl rfl (Nat.le_refl _) _ (idxC_T_ok xs l f) fun hF => by
    have hl : xs.length ≤ 9223372036854775807 := (hF.ro (i := 0) rfl).1
    unfold idxC_T
    refine g_stop (RunN.keep [0, 1] (true :: true :: F4 (false :: true :: true :: F8 (F2 ([])))) (show ∀ k, k < 2 → ([0, 1] : List Nat)[k]? = some k by decide) (by decide) rfl rfl ?_)
    exact idxC_l0 xs l f 0 hl hr

noncomputable def oc47 : Orc where
  pure := fun f args => match f, args with
    | _, _ => none
  heap := fun f args H => match f, args with
    | 93, [a0, .one (.c (.fnc (.fn0 163) (.ptr 0 0 0 0)))] => match H with
      | [b0, b1] => (match dA (.slice tI) a0, dB 187 tLook b0, dB 84 tFn b1 with
        | some x0, some y0, some y1 => some (.c (.int .i64 (fstF (outB y0) 0 x0)), [b0, b1], List.range 2)
        | _, _, _ => none)
      | _ => none
    | _, _ => none
def conC_lv : LV := ⟨([]), []⟩
noncomputable def conC_T (xs : List Int) (l : ELook) (f : EFn) : Tree :=
  .callH 93 [.c (.ro tI xs), .c (.fnc (.fn0 163) (.ptr 0 0 0 0))] [.cells 187 (Ty.enc tLook l), .cells 84 (Ty.enc tFn f)] (.c (.int .i64 (fstF (outB l) 0 xs))) [.cells 187 (Ty.enc tLook l), .cells 84 (Ty.enc tFn f)] [0, 1] <|
  .ret (.c (.bool (decide ((0 : Int) ≤ fstF (outB l) 0 xs)))) [.cells 187 (Ty.enc tLook l), .cells 84 (Ty.enc tFn f)]
theorem conC_T_ok (xs : List Int) (l : ELook) (f : EFn) : aRun Tryd.prog oc47 Tryd.f56 conC_lv 3000 [.code (bodyOf Tryd.f56)] ([.c (.ro tI xs), .c (.fnc (.fn0 163) (.ptr 0 0 0 0))] ++ List.replicate (Func.ntmps Tryd.f56 - 2) .junk) [.cells 187 (Ty.enc tLook l), .cells 84 (Ty.enc tFn f)] = conC_T xs l f := by kernel_rfl
theorem conC_fun (xs : List Int) (l : ELook) (f : EFn) (hr : 0 ≤ l.2.2.1) : AFunH Tryd.prog 56 [.c (.ro tI xs), .c (.fnc (.fn0 163) (.ptr 0 0 0 0))] [.cells 187 (Ty.enc tLook l), .cells 84 (Ty.enc tFn f)] (.c (.bool (List.any xs (outB l)))) [.cells 187 (Ty.enc tLook l), .cells 84 (Ty.enc tFn f)] (List.range 2) :=
  AFunH.of oc47 conC_lv 3000 Tryd.func56 mixed rfl (by decide) (Nat.le_of_ble_eq_true rfl) rfl rfl (Nat.le_refl _) _ (conC_T_ok xs l f) fun hF => by
    unfold conC_T
    refine g_callH (idxC_fun xs l f hr) ?_
    exact g_rh [0, 1] (show ∀ k, k < 2 → ([0, 1] : List Nat)[k]? = some k by decide) (by decide) (by simp only [renA, ren1, renC, leAV, leA1, leC]; exact fstF_ge) rfl

noncomputable def oc48 : Orc where
  pure := fun f args => match f, args with
    | _, _ => none
  heap := fun f args H => match f, args with
    | 56, [a0, .one (.c (.fnc (.fn0 163) (.ptr 0 0 0 0)))] => match H with
      | [b0, b1] => (match dA (.slice tI) a0, dB 187 tLook b0, dB 84 tFn b1 with
        | some x0, some y0, some y1 => some (.c (.bool (List.any x0 (outB y0))), [b0, b1], List.range 2)
        | _, _, _ => none)
      | _ => none
    | _, _ => none
def lcaught_lv : LV := ⟨([]), []⟩
noncomputable def lcaught_T (l : ELook) (f : EFn) : Tree :=
  .callH 56 [.c (.ro tI f.2.2.2.1), .c (.fnc (.fn0 163) (.ptr 0 0 0 0))] [.cells 187 (Ty.enc tLook l), .cells 84 (Ty.enc tFn f)] (.c (.bool (List.any f.2.2.2.1 (outB l)))) [.cells 187 (Ty.enc tLook l), .cells 84 (Ty.enc tFn f)] [0, 1] <|
  .ret (.c (.bool (!(List.any f.2.2.2.1 (outB l))))) [.cells 187 (Ty.enc tLook l), .cells 84 (Ty.enc tFn f)]
theorem lcaught_T_ok (l : ELook) (f : EFn) : aRun Tryd.prog oc48 Tryd.f148 lcaught_lv 3000 [.code (bodyOf Tryd.f148)] ([.agg (tLook.enc l), .agg (tFn.enc f)] ++ List.replicate (Func.ntmps Tryd.f148 - 2) .junk) [] = lcaught_T l f := by kernel_rfl
theorem lcaught_fun (l : ELook) (f : EFn) (hr : 0 ≤ l.2.2.1) : AFun Tryd.prog 148 [.agg (tLook.enc l), .agg (tFn.enc f)] (.c (.bool (caughtF l.2.2.1 l.2.2.2.2.1.length f.2.2.2.1))) :=
  AFun.of oc48 lcaught_lv 3000 Tryd.func148 mixed rfl (by decide) (Nat.le_of_ble_eq_true rfl) _ (lcaught_T_ok l f) fun hF => by
    unfold lcaught_T
    refine g_callH (conC_fun f.2.2.2.1 l f hr) ?_
    exact g_retb (by rfl)

def orderE (l : ELook) (a : Int) (o : EOrd) : Bool := orderF (l.1.1.map toFn) (lkE l) l.2.2.2.1 a (toOrd o)
theorem formS_some {op : Int} {a b c : UInt8} (h : formF op = some (a, b, c)) : formS op = ⟨#[a, b, c]⟩ := by unfold formS; rw [h]
theorem formS_none {op : Int} (h : formF op = none) : formS op = ByteArray.empty := by unfold formS; rw [h]; rfl
def orderT (l : ELook) (a : Int) (o : EOrd) : Bool := if o.1 = 14 then decide (o.2.1 ≤ a) else if o.1 = 19 then decide (o.2.2.1 + o.2.2.2.1 ≤ l.2.2.1) else if o.1 = 27 then withinF (o.2.2.1 + o.2.2.2.1) 0 (l.2.2.1 - 1) else if o.1 = 26 then caughtF l.2.2.1 l.2.2.2.2.1.length (l.1.1.getD o.2.2.1.toNat tFn.dflt).2.2.2.1 else if o.1 = 32 then l.2.2.2.1 else true
def namesE (l : ELook) (k : Nat) (o : EOrd) (n : Int) : Bool := namesI l (UInt8.toNat ((formS o.1)[k]!) : Int) n
theorem orderE_eq (l : ELook) (a : Int) (o : EOrd) : orderE l a o = (!(decide (formS o.1 = ByteArray.empty)) && (withinF o.2.2.2.2 0 2000 && (namesE l 0 o o.2.1 && (namesE l 1 o o.2.2.1 && (namesE l 2 o o.2.2.2.1 && orderT l a o))))) := by
  unfold orderE orderF
  simp only [toOrd]
  cases hf : formF o.1 with
  | none => rw [formS_none hf]; rfl
  | some F =>
    obtain ⟨x, y, z⟩ := F
    have hs := formS_some hf
    have hne : formS o.1 ≠ ByteArray.empty := by rw [hs]; intro h; have := congrArg ByteArray.size h; simp [ByteArray.size] at this
    rw [decide_eq_false hne]
    have e0 : namesE l 0 o o.2.1 = namesF (lkE l) x o.2.1 := by unfold namesE; rw [hs]; exact namesI_eq l x _
    have e1 : namesE l 1 o o.2.2.1 = namesF (lkE l) y o.2.2.1 := by unfold namesE; rw [hs]; exact namesI_eq l y _
    have e2 : namesE l 2 o o.2.2.2.1 = namesF (lkE l) z o.2.2.2.1 := by unfold namesE; rw [hs]; exact namesI_eq l z _
    rw [e0, e1, e2]
    simp only [Bool.not_false, Bool.true_and]
    cases hb : namesF (lkE l) y o.2.2.1 with
    | false => simp
    | true =>
      have eT : ordTailF (l.1.1.map toFn) (lkE l) l.2.2.2.1 a (toOrd o) = orderT l a o := by
        unfold ordTailF toOrd orderT lkE
        simp only
        by_cases h26 : o.1 = 26
        · simp only [h26, Int.reduceEq, if_false, if_true]
          have h102 : y = 102 := by
            rw [h26] at hf
            have hf : some _ = some (x, y, z) := hf
            injection hf with hf
            injection hf with _ hf
            injection hf with hf _
            exact hf.symm
          subst h102
          have h1 : withinF o.2.2.1 1 ((l.1.1.length : Int) - 1) = true := hb
          rw [within_iff] at h1
          have hlt : o.2.2.1.toNat < l.1.1.length := by omega
          rw [List.getElem?_map, List.getElem?_eq_getElem hlt, List.getD_eq_getElem?_getD, List.getElem?_eq_getElem hlt]
          rfl
        · simp only [h26, if_false]
      have eT : ordTailF (l.1.1.map toFn) (lkE l) l.2.2.2.1 a ⟨o.1, o.2.1, o.2.2.1, o.2.2.2.1, o.2.2.2.2⟩ = orderT l a o := eT
      rw [eT]
      simp only [Bool.and_assoc, Bool.true_and]
theorem form_bytes {op : Int} (h : formS op ≠ ByteArray.empty) : (formS op).size = 3 := by
  cases hf : formF op with
  | none => exact absurd (formS_none hf) h
  | some F => obtain ⟨x, y, z⟩ := F; rw [formS_some hf]; rfl
theorem names_26 {l : ELook} {o : EOrd} (ho : o.1 = 26) (h : namesI l (UInt8.toNat ((formS o.1)[1]!) : Int) o.2.2.1 = true) : 1 ≤ o.2.2.1 ∧ o.2.2.1 < (l.1.1.length : Int) := by
  rw [ho] at h
  have h : withinF o.2.2.1 1 ((l.1.1.length : Int) - 1) = true := h
  rw [within_iff] at h
  omega
theorem names_19 {l : ELook} {o : EOrd} (ho : o.1 = 19) (h1 : namesI l (UInt8.toNat ((formS o.1)[1]!) : Int) o.2.2.1 = true) (h2 : namesI l (UInt8.toNat ((formS o.1)[2]!) : Int) o.2.2.2.1 = true) : 0 ≤ o.2.2.1 ∧ o.2.2.1 ≤ l.2.2.1 ∧ 0 ≤ o.2.2.2.1 ∧ o.2.2.2.1 ≤ l.2.2.1 := by
  rw [ho] at h1 h2
  have h1 : withinF o.2.2.1 0 l.2.2.1 = true := h1
  have h2 : withinF o.2.2.2.1 0 l.2.2.1 = true := h2
  rw [within_iff] at h1 h2
  omega
theorem names_27 {l : ELook} {o : EOrd} (ho : o.1 = 27) (h1 : namesI l (UInt8.toNat ((formS o.1)[1]!) : Int) o.2.2.1 = true) (h2 : namesI l (UInt8.toNat ((formS o.1)[2]!) : Int) o.2.2.2.1 = true) : 0 ≤ o.2.2.1 ∧ o.2.2.1 ≤ l.2.2.1 ∧ 0 ≤ o.2.2.2.1 ∧ o.2.2.2.1 ≤ l.2.2.1 := by
  rw [ho] at h1 h2
  have h1 : withinF o.2.2.1 0 l.2.2.1 = true := h1
  have h2 : withinF o.2.2.2.1 0 l.2.2.1 = true := h2
  rw [within_iff] at h1 h2
  omega
noncomputable def oc49 : Orc where
  pure := fun f args => match f, args with
    | 144, [a0] => match dA tI a0 with
      | some x0 => some (.c (.str (formS x0)))
      | _ => none
    | 145, [a0, a1, a2] => match dA tI a0, dA tI a1, dA tI a2 with
      | some x0, some x1, some x2 => some (.c (.bool (withinF x0 x1 x2)))
      | _, _, _ => none
    | 146, [a0, a1, a2] => match dA tLook a0, dA (.int .u8) a1, dA tI a2 with
      | some x0, some x1, some x2 => some (.c (.bool (namesI x0 x1 x2)))
      | _, _, _ => none
    | 147, [a0, a1] => match dA tLook a0, dA tI a1 with
      | some x0, some x1 => some (.c (.bool (withinF x1 0 (x0.2.2.1 - 1))))
      | _, _ => none
    | 148, [a0, a1] => match dA tLook a0, dA tFn a1 with
      | some x0, some x1 => some (.c (.bool (caughtF x0.2.2.1 x0.2.2.2.2.1.length x1.2.2.2.1)))
      | _, _ => none
    | _, _ => none
  heap := fun _ _ _ => none
def lorder_lv : LV := ⟨([]), []⟩
noncomputable def lorder_T (l : ELook) (a : Int) (o : EOrd) : Tree :=
  .call 144 [.c (.int .i64 o.1)] false (.c (.str (formS o.1))) <|
  .ite (decide (formS o.1 = ByteArray.empty))
  (.ret (.c (.lit false)) [.cells 187 (Ty.enc tLook l), .cells 189 (Ty.enc tOrd o)])
  (.call 145 [.c (.int .i64 o.2.2.2.2), .c (.int .i64 0), .c (.int .i64 2000)] false (.c (.bool (withinF o.2.2.2.2 0 2000))) <|
   .ite ((!(withinF o.2.2.2.2 0 2000)))
   (.ret (.c (.lit false)) [.cells 187 (Ty.enc tLook l), .cells 189 (Ty.enc tOrd o)])
   (.need ((0 : Int) ≤ 0 ∧ (0 : Int) < ((formS o.1).size : Int)) <|
    .call 146 [.agg (Ty.enc tLook l), .c (.int .u8 (UInt8.toNat ((formS o.1)[0]!) : Int)), .c (.int .i64 o.2.1)] false (.c (.bool (namesI l (UInt8.toNat ((formS o.1)[0]!) : Int) o.2.1))) <|
    .ite ((!(namesI l (UInt8.toNat ((formS o.1)[0]!) : Int) o.2.1)))
    (.ret (.c (.lit false)) [.cells 187 (Ty.enc tLook l), .cells 189 (Ty.enc tOrd o)])
    (.need ((0 : Int) ≤ 1 ∧ (1 : Int) < ((formS o.1).size : Int)) <|
     .call 146 [.agg (Ty.enc tLook l), .c (.int .u8 (UInt8.toNat ((formS o.1)[1]!) : Int)), .c (.int .i64 o.2.2.1)] false (.c (.bool (namesI l (UInt8.toNat ((formS o.1)[1]!) : Int) o.2.2.1))) <|
     .ite ((!(namesI l (UInt8.toNat ((formS o.1)[1]!) : Int) o.2.2.1)))
     (.ret (.c (.lit false)) [.cells 187 (Ty.enc tLook l), .cells 189 (Ty.enc tOrd o)])
     (.need ((0 : Int) ≤ 2 ∧ (2 : Int) < ((formS o.1).size : Int)) <|
      .call 146 [.agg (Ty.enc tLook l), .c (.int .u8 (UInt8.toNat ((formS o.1)[2]!) : Int)), .c (.int .i64 o.2.2.2.1)] false (.c (.bool (namesI l (UInt8.toNat ((formS o.1)[2]!) : Int) o.2.2.2.1))) <|
      .ite ((!(namesI l (UInt8.toNat ((formS o.1)[2]!) : Int) o.2.2.2.1)))
      (.ret (.c (.lit false)) [.cells 187 (Ty.enc tLook l), .cells 189 (Ty.enc tOrd o)])
      (.ite (decide (o.1 = 14))
       (.ret (.c (.bool (decide (o.2.1 ≤ a)))) [.cells 187 (Ty.enc tLook l), .cells 189 (Ty.enc tOrd o)])
       (.ite (decide (o.1 = 19))
        (.need (inR .i64 (o.2.2.1 + o.2.2.2.1)) <|
         .ret (.c (.bool (decide ((o.2.2.1 + o.2.2.2.1) ≤ l.2.2.1)))) [.cells 187 (Ty.enc tLook l), .cells 189 (Ty.enc tOrd o)])
        (.ite (decide (o.1 = 27))
         (.need (inR .i64 (o.2.2.1 + o.2.2.2.1)) <|
          .call 147 [.agg (Ty.enc tLook l), .c (.int .i64 (o.2.2.1 + o.2.2.2.1))] false (.c (.bool (withinF (o.2.2.1 + o.2.2.2.1) 0 (l.2.2.1 - 1)))) <|
          .ret (.c (.bool (withinF (o.2.2.1 + o.2.2.2.1) 0 (l.2.2.1 - 1)))) [.cells 187 (Ty.enc tLook l), .cells 189 (Ty.enc tOrd o)])
         (.ite (decide (o.1 = 26))
          (.need ((0 : Int) ≤ o.2.2.1 ∧ (o.2.2.1 : Int) < (l.1.1.length : Int)) <|
           .need ((Int.toNat o.2.2.1) < l.1.1.length) <|
           .call 148 [.agg (Ty.enc tLook l), .agg [.int .i64 (l.1.1.getD (Int.toNat o.2.2.1) tFn.dflt).1, .int .i64 (l.1.1.getD (Int.toNat o.2.2.1) tFn.dflt).2.1, .bool (l.1.1.getD (Int.toNat o.2.2.1) tFn.dflt).2.2.1, .ro tI (l.1.1.getD (Int.toNat o.2.2.1) tFn.dflt).2.2.2.1, .ro tOrd (l.1.1.getD (Int.toNat o.2.2.1) tFn.dflt).2.2.2.2]] false (.c (.bool (caughtF l.2.2.1 l.2.2.2.2.1.length (l.1.1.getD (Int.toNat o.2.2.1) tFn.dflt).2.2.2.1))) <|
           .ret (.c (.bool (caughtF l.2.2.1 l.2.2.2.2.1.length (l.1.1.getD (Int.toNat o.2.2.1) tFn.dflt).2.2.2.1))) [.cells 187 (Ty.enc tLook l), .cells 189 (Ty.enc tOrd o)])
          (.ite (decide (o.1 = 32))
           (.ret (.c (.bool l.2.2.2.1)) [.cells 187 (Ty.enc tLook l), .cells 189 (Ty.enc tOrd o)])
           (.ret (.c (.lit true)) [.cells 187 (Ty.enc tLook l), .cells 189 (Ty.enc tOrd o)]))))))))))
theorem lorder_T_ok (l : ELook) (a : Int) (o : EOrd) : aRun Tryd.prog oc49 Tryd.f121 lorder_lv 3000 [.code (bodyOf Tryd.f121)] ([.agg (tLook.enc l), .c (.int .i64 a), .agg (tOrd.enc o)] ++ List.replicate (Func.ntmps Tryd.f121 - 3) .junk) [] = lorder_T l a o := by kernel_rfl
theorem lorder_fun (l : ELook) (a : Int) (o : EOrd) (hr : 0 ≤ l.2.2.1 ∧ l.2.2.1 ≤ 60) : AFun Tryd.prog 121 [.agg (tLook.enc l), .c (.int .i64 a), .agg (tOrd.enc o)] (.c (.bool (orderE l a o))) :=
  AFun.of oc49 lorder_lv 3000 Tryd.func121 mixed rfl (by decide) (Nat.le_of_ble_eq_true rfl) _ (lorder_T_ok l a o) fun hF => by
    unfold lorder_T
    refine g_call (form_fun o.1) (fun h => nomatch h) ?_
    refine g_iteD (fun h0 => ?_) (fun h0 => ?_)
    · exact g_retl (by rw [orderE_eq]; first | (simp only [namesE, h0, if_true, if_false, Int.reduceEq, decide_true, decide_false, Bool.not_true, Bool.not_false, Bool.false_and, Bool.true_and, Bool.and_true, reduceIte]; done) | (simp only [namesE, h0, h1, h2, h3, h4, decide_false, Bool.not_false, Bool.true_and]; simp only [orderT, h0, if_true, if_false, Int.reduceEq, reduceIte]; done))
    · refine g_call (within_fun o.2.2.2.2 0 2000) (fun h => nomatch h) ?_
      refine g_iteN (fun h1 => ?_) (fun h1 => ?_)
      · exact g_retl (by rw [orderE_eq]; first | (simp only [namesE, h0, h1, if_true, if_false, Int.reduceEq, decide_true, decide_false, Bool.not_true, Bool.not_false, Bool.false_and, Bool.true_and, Bool.and_true, reduceIte]; done) | (simp only [namesE, h0, h1, h2, h3, h4, decide_false, Bool.not_false, Bool.true_and]; simp only [orderT, h0, h1, if_true, if_false, Int.reduceEq, reduceIte]; done))
      · refine g_need (by have q := form_bytes h0; omega) ?_
        refine g_call (lnames_fun l (UInt8.toNat ((formS o.1)[0]!) : Int) o.2.1 (by omega)) (fun h => nomatch h) ?_
        refine g_iteN (fun h2 => ?_) (fun h2 => ?_)
        · exact g_retl (by rw [orderE_eq]; first | (simp only [namesE, h0, h1, h2, if_true, if_false, Int.reduceEq, decide_true, decide_false, Bool.not_true, Bool.not_false, Bool.false_and, Bool.true_and, Bool.and_true, reduceIte]; done) | (simp only [namesE, h0, h1, h2, h3, h4, decide_false, Bool.not_false, Bool.true_and]; simp only [orderT, h0, h1, h2, if_true, if_false, Int.reduceEq, reduceIte]; done))
        · refine g_need (by have q := form_bytes h0; omega) ?_
          refine g_call (lnames_fun l (UInt8.toNat ((formS o.1)[1]!) : Int) o.2.2.1 (by omega)) (fun h => nomatch h) ?_
          refine g_iteN (fun h3 => ?_) (fun h3 => ?_)
          · exact g_retl (by rw [orderE_eq]; first | (simp only [namesE, h0, h1, h2, h3, if_true, if_false, Int.reduceEq, decide_true, decide_false, Bool.not_true, Bool.not_false, Bool.false_and, Bool.true_and, Bool.and_true, reduceIte]; done) | (simp only [namesE, h0, h1, h2, h3, h4, decide_false, Bool.not_false, Bool.true_and]; simp only [orderT, h0, h1, h2, h3, if_true, if_false, Int.reduceEq, reduceIte]; done))
          · refine g_need (by have q := form_bytes h0; omega) ?_
            refine g_call (lnames_fun l (UInt8.toNat ((formS o.1)[2]!) : Int) o.2.2.2.1 (by omega)) (fun h => nomatch h) ?_
            refine g_iteN (fun h4 => ?_) (fun h4 => ?_)
            · exact g_retl (by rw [orderE_eq]; first | (simp only [namesE, h0, h1, h2, h3, h4, if_true, if_false, Int.reduceEq, decide_true, decide_false, Bool.not_true, Bool.not_false, Bool.false_and, Bool.true_and, Bool.and_true, reduceIte]; done) | (simp only [namesE, h0, h1, h2, h3, h4, decide_false, Bool.not_false, Bool.true_and]; simp only [orderT, h0, h1, h2, h3, h4, if_true, if_false, Int.reduceEq, reduceIte]; done))
            · refine g_iteD (fun h5 => ?_) (fun h5 => ?_)
              · exact g_retb (by rw [orderE_eq]; first | (simp only [namesE, h0, h1, h2, h3, h4, h5, if_true, if_false, Int.reduceEq, decide_true, decide_false, Bool.not_true, Bool.not_false, Bool.false_and, Bool.true_and, Bool.and_true, reduceIte]; done) | (simp only [namesE, h0, h1, h2, h3, h4, decide_false, Bool.not_false, Bool.true_and]; simp only [orderT, h0, h1, h2, h3, h4, h5, if_true, if_false, Int.reduceEq, reduceIte]; done))
              · refine g_iteD (fun h6 => ?_) (fun h6 => ?_)
                · refine g_need (by have q := names_19 (by assumption) h3 h4; rw [i64_iff]; omega) ?_
                  exact g_retb (by rw [orderE_eq]; first | (simp only [namesE, h0, h1, h2, h3, h4, h5, h6, if_true, if_false, Int.reduceEq, decide_true, decide_false, Bool.not_true, Bool.not_false, Bool.false_and, Bool.true_and, Bool.and_true, reduceIte]; done) | (simp only [namesE, h0, h1, h2, h3, h4, decide_false, Bool.not_false, Bool.true_and]; simp only [orderT, h0, h1, h2, h3, h4, h5, h6, if_true, if_false, Int.reduceEq, reduceIte]; done))
                · refine g_iteD (fun h7 => ?_) (fun h7 => ?_)
                  · refine g_need (by have q := names_27 (by assumption) h3 h4; rw [i64_iff]; omega) ?_
                    refine g_call (lreg_fun l (o.2.2.1 + o.2.2.2.1) (by omega)) (fun h => nomatch h) ?_
                    exact g_retb (by rw [orderE_eq]; first | (simp only [namesE, h0, h1, h2, h3, h4, h5, h6, h7, if_true, if_false, Int.reduceEq, decide_true, decide_false, Bool.not_true, Bool.not_false, Bool.false_and, Bool.true_and, Bool.and_true, reduceIte]; done) | (simp only [namesE, h0, h1, h2, h3, h4, decide_false, Bool.not_false, Bool.true_and]; simp only [orderT, h0, h1, h2, h3, h4, h5, h6, h7, if_true, if_false, Int.reduceEq, reduceIte]; done))
                  · refine g_iteD (fun h8 => ?_) (fun h8 => ?_)
                    · refine g_need (by have q := names_26 (by assumption) h3; omega) ?_
                      refine g_need (by have q := names_26 (by assumption) h3; omega) ?_
                      refine g_call (lcaught_fun l (l.1.1.getD (Int.toNat o.2.2.1) tFn.dflt) (by omega)) (fun h => nomatch h) ?_
                      exact g_retb (by rw [orderE_eq]; first | (simp only [namesE, h0, h1, h2, h3, h4, h5, h6, h7, h8, if_true, if_false, Int.reduceEq, decide_true, decide_false, Bool.not_true, Bool.not_false, Bool.false_and, Bool.true_and, Bool.and_true, reduceIte]; done) | (simp only [namesE, h0, h1, h2, h3, h4, decide_false, Bool.not_false, Bool.true_and]; simp only [orderT, h0, h1, h2, h3, h4, h5, h6, h7, h8, if_true, if_false, Int.reduceEq, reduceIte]; done))
                    · refine g_iteD (fun h9 => ?_) (fun h9 => ?_)
                      · exact g_retb (by rw [orderE_eq]; first | (simp only [namesE, h0, h1, h2, h3, h4, h5, h6, h7, h8, h9, if_true, if_false, Int.reduceEq, decide_true, decide_false, Bool.not_true, Bool.not_false, Bool.false_and, Bool.true_and, Bool.and_true, reduceIte]; done) | (simp only [namesE, h0, h1, h2, h3, h4, decide_false, Bool.not_false, Bool.true_and]; simp only [orderT, h0, h1, h2, h3, h4, h5, h6, h7, h8, h9, if_true, if_false, Int.reduceEq, reduceIte]; done))
                      · exact g_retl (by rw [orderE_eq]; first | (simp only [namesE, h0, h1, h2, h3, h4, h5, h6, h7, h8, h9, if_true, if_false, Int.reduceEq, decide_true, decide_false, Bool.not_true, Bool.not_false, Bool.false_and, Bool.true_and, Bool.and_true, reduceIte]; done) | (simp only [namesE, h0, h1, h2, h3, h4, decide_false, Bool.not_false, Bool.true_and]; simp only [orderT, h0, h1, h2, h3, h4, h5, h6, h7, h8, h9, if_true, if_false, Int.reduceEq, reduceIte]; done))

def ordsE (l : ELook) : Nat → List EOrd → Bool
  | _, [] => true
  | i, o :: r => if orderE l (i : Int) o = true then ordsE l (i + 1) r else false
theorem ordsE_iff {l : ELook} : ∀ {os : List EOrd} {i : Nat}, ordsE l i os = true ↔ ∀ (j : Nat) (o : EOrd), os[j]? = some o → orderE l ((i + j : Nat) : Int) o = true
  | [], i => by simp [ordsE]
  | o :: r, i => by
    rw [ordsE]
    constructor
    · intro h j x hx
      split at h
      · rename_i h0
        cases j with
        | zero => simp only [List.getElem?_cons_zero, Option.some.injEq] at hx; rw [← hx]; exact h0
        | succ j => rw [List.getElem?_cons_succ] at hx; have := ordsE_iff.1 h j x hx; rw [show i + (j + 1) = i + 1 + j by omega]; exact this
      · exact absurd h Bool.false_ne_true
    · intro h
      rw [if_pos (show orderE l (i : Int) o = true from h 0 o rfl)]
      exact ordsE_iff.2 fun j x hx => by have := h (j + 1) x (by rw [List.getElem?_cons_succ]; exact hx); rw [show i + (j + 1) = i + 1 + j by omega] at this; exact this
theorem ordsE_eq (p : EProg) (f : EFn) : ordsE (p, f) 0 f.2.2.2.2 = ordersF (toProg p) (toFn f) := by
  have hl : lkE (p, f) = lkOf (toProg p) (toFn f) := by simp [lkE, lkOf, toProg, toFn]
  rw [Bool.eq_iff_iff, ordsE_iff, orders_at]
  constructor
  · intro h i o ho
    have ho : (f.2.2.2.2.map toOrd)[i]? = some o := ho
    rw [List.getElem?_map] at ho
    obtain ⟨x, hx, rfl⟩ := Option.map_eq_some_iff.1 ho
    have := h i x hx
    rw [Nat.zero_add] at this
    unfold orderE at this
    rw [hl] at this
    exact this
  · intro h i o ho
    have := h i (toOrd o) (by show (f.2.2.2.2.map toOrd)[i]? = _; rw [List.getElem?_map, ho]; rfl)
    rw [Nat.zero_add]
    unfold orderE
    rw [hl]
    exact this
def endFn (f : EFn) : Bool := !(triesF (toFn f).code).bad
def headE (f : EFn) : Bool := if f.1 < 0 then false else if f.2.1 < 1 then false else if f.2.1 < f.1 then false else true
def fnE (p : EProg) (f : EFn) : Bool := if headE f = true then (if ordsE (p, f) 0 f.2.2.2.2 = true then endFn f else false) else false
theorem fnE_eq (p : EProg) (f : EFn) : fnE p f = functionF (toProg p) (toFn f) := by
  unfold fnE functionF
  rw [ordsE_eq]
  have : headE f = headF (toFn f) := by
    unfold headE headF toFn
    simp only
    by_cases h1 : f.1 < 0
    · rw [if_pos h1, decide_eq_false (by omega : ¬ 0 ≤ f.1)]; rfl
    · rw [if_neg h1, decide_eq_true (by omega : 0 ≤ f.1)]
      by_cases h2 : f.2.1 < 1
      · rw [if_pos h2, decide_eq_false (by omega : ¬ 1 ≤ f.2.1)]; rfl
      · rw [if_neg h2, decide_eq_true (by omega : 1 ≤ f.2.1)]
        by_cases h3 : f.2.1 < f.1
        · rw [if_pos h3, decide_eq_false (by omega : ¬ f.1 ≤ f.2.1)]; rfl
        · rw [if_neg h3, decide_eq_true (by omega : f.1 ≤ f.2.1)]; rfl
  rw [this]
  unfold endFn
  cases headF (toFn f) <;> cases ordersF (toProg p) (toFn f) <;> rfl
noncomputable def oc50 : Orc where
  pure := fun f args => match f, args with
    | 121, [a0, a1, a2] => match dA tLook a0, dA tI a1, dA tOrd a2 with
      | some x0, some x1, some x2 => some (.c (.bool (orderE x0 x1 x2)))
      | _, _, _ => none
    | 122, [a0] => match dA tFn a0 with
      | some x0 => some (.tup [.c .junk, .c .junk, .c (.bool ((!(triesF (toFn x0).code).bad)))])
      | _ => none
    | _, _ => none
  heap := fun _ _ _ => none
def func_lv : LV := ⟨(F2 (false :: true :: false :: true :: F16 (F8 (true :: true :: true :: F16 (false :: []))))), []⟩
noncomputable def func_T (p : EProg) (f : EFn) : Tree :=
  .ite (decide (f.1 < 0))
  (.ret (.c (.lit false)) [.cells 39 (Ty.enc tProg p), .cells 84 (Ty.enc tFn f), .cells 187 (Ty.enc tLook (p, f))])
  (.ite (decide (f.2.1 < 1))
   (.ret (.c (.lit false)) [.cells 39 (Ty.enc tProg p), .cells 84 (Ty.enc tFn f), .cells 187 (Ty.enc tLook (p, f))])
   (.ite (decide (f.2.1 < f.1))
    (.ret (.c (.lit false)) [.cells 39 (Ty.enc tProg p), .cells 84 (Ty.enc tFn f), .cells 187 (Ty.enc tLook (p, f))])
    (.stop (lp (bodyOf Tryd.f83) 0) (J2 (.junk :: .c (.ptr 1 0 0 0) :: .junk :: .c (.ptr 2 0 0 0) :: J16 (J8 (.c (.ro tOrd f.2.2.2.2) :: .c (.int .i64 (f.2.2.2.2.length : Int)) :: .c (.int .i64 0) :: J16 (.junk :: []))))) [.cells 39 (Ty.enc tProg p), .cells 84 (Ty.enc tFn f), .cells 187 (Ty.enc tLook (p, f))])))
theorem func_T_ok (p : EProg) (f : EFn) : aRun Tryd.prog oc50 Tryd.f83 func_lv 3000 [.code (bodyOf Tryd.f83)] ([.agg (tProg.enc p), .agg (tFn.enc f)] ++ List.replicate (Func.ntmps Tryd.f83 - 2) .junk) [] = func_T p f := by kernel_rfl
noncomputable def func_l0_R (p : EProg) (f : EFn) (i : Nat) : Tree :=
  .ite (decide (((i : Nat) : Int) < (f.2.2.2.2.length : Int)))
  (.need ((0 : Int) ≤ ((i : Nat) : Int) ∧ (((i : Nat) : Int) : Int) < (f.2.2.2.2.length : Int)) <|
   .need (i < f.2.2.2.2.length) <|
   .call 121 [.agg (Ty.enc tLook (p, f)), .c (.int .i64 ((i : Nat) : Int)), .agg [.int .i64 (f.2.2.2.2.getD i tOrd.dflt).1, .int .i64 (f.2.2.2.2.getD i tOrd.dflt).2.1, .int .i64 (f.2.2.2.2.getD i tOrd.dflt).2.2.1, .int .i64 (f.2.2.2.2.getD i tOrd.dflt).2.2.2.1, .int .i64 (f.2.2.2.2.getD i tOrd.dflt).2.2.2.2]] false (.c (.bool (orderE (p, f) ((i : Nat) : Int) (f.2.2.2.2.getD i tOrd.dflt)))) <|
   .ite ((!(orderE (p, f) ((i : Nat) : Int) (f.2.2.2.2.getD i tOrd.dflt))))
   (.ret (.c (.lit false)) [.cells 84 (Ty.enc tFn f), .cells 187 (Ty.enc tLook (p, f)), .cells 189 [.int .i64 (f.2.2.2.2.getD i tOrd.dflt).1, .int .i64 (f.2.2.2.2.getD i tOrd.dflt).2.1, .int .i64 (f.2.2.2.2.getD i tOrd.dflt).2.2.1, .int .i64 (f.2.2.2.2.getD i tOrd.dflt).2.2.2.1, .int .i64 (f.2.2.2.2.getD i tOrd.dflt).2.2.2.2]])
   (.need (inR .i64 (((i : Nat) : Int) + 1)) <|
    .stop (lp (bodyOf Tryd.f83) 0) (J2 (.junk :: .c (.ptr 0 0 0 0) :: .junk :: .c (.ptr 1 0 0 0) :: J16 (J8 (.c (.ro tOrd f.2.2.2.2) :: .c (.int .i64 (f.2.2.2.2.length : Int)) :: .c (.int .i64 (((i : Nat) : Int) + 1)) :: J16 (.junk :: []))))) [.cells 84 (Ty.enc tFn f), .cells 187 (Ty.enc tLook (p, f)), .cells 189 [.int .i64 (f.2.2.2.2.getD i tOrd.dflt).1, .int .i64 (f.2.2.2.2.getD i tOrd.dflt).2.1, .int .i64 (f.2.2.2.2.getD i tOrd.dflt).2.2.1, .int .i64 (f.2.2.2.2.getD i tOrd.dflt).2.2.2.1, .int .i64 (f.2.2.2.2.getD i tOrd.dflt).2.2.2.2]]))
  (.call 122 [.agg (Ty.enc tFn f)] false (.tup [.c (.junk), .c (.junk), .c (.bool (!(triesF (toFn f).code).bad))]) <|
   .ret (.c (.bool (!(triesF (toFn f).code).bad))) [.cells 84 (Ty.enc tFn f), .cells 187 (Ty.enc tLook (p, f))])
theorem func_l0_R_ok (p : EProg) (f : EFn) (i : Nat) : aRound Tryd.prog oc50 Tryd.f83 func_lv 3000 (lp (bodyOf Tryd.f83) 0) (J2 (.junk :: .c (.ptr 0 0 0 0) :: .junk :: .c (.ptr 1 0 0 0) :: J16 (J8 (.c (.ro tOrd f.2.2.2.2) :: .c (.int .i64 (f.2.2.2.2.length : Int)) :: .c (.int .i64 ((i : Nat) : Int)) :: J16 (.junk :: []))))) [.cells 84 (Ty.enc tFn f), .cells 187 (Ty.enc tLook (p, f))] = func_l0_R p f i := by kernel_rfl
theorem func_l0 (p : EProg) (f : EFn) (i : Nat) (hq : 0 ≤ f.2.1 ∧ f.2.1 ≤ 60) (hn : f.2.2.2.2.length ≤ 600) (hj : ordsE (p, f) i (f.2.2.2.2.drop i) = true → jumpsOk (toFn f).code) : Run Tryd.prog 83 (retQ Tryd.prog (.c (.bool (if ordsE (p, f) i (f.2.2.2.2.drop i) = true then endFn f else false)))) (lp (bodyOf Tryd.f83) 0) (J2 (.junk :: .c (.ptr 0 0 0 0) :: .junk :: .c (.ptr 1 0 0 0) :: J16 (J8 (.c (.ro tOrd f.2.2.2.2) :: .c (.int .i64 (f.2.2.2.2.length : Int)) :: .c (.int .i64 ((i : Nat) : Int)) :: J16 (.junk :: []))))) [.cells 84 (Ty.enc tFn f), .cells 187 (Ty.enc tLook (p, f))] :=
  Run.roundA oc50 func_lv 3000 Tryd.func83 mixed (func_l0_R p f i) (func_l0_R_ok p f i) (by
    unfold func_l0_R
    refine g_iteD (fun h0 => ?_) (fun h0 => ?_)
    · refine g_need (by omega) ?_
      refine g_need (by omega) ?_
      refine g_call (lorder_fun (p, f) ((i : Nat) : Int) (f.2.2.2.2.getD i tOrd.dflt) (by exact hq)) (fun h => nomatch h) ?_
      refine g_iteN (fun h1 => ?_) (fun h1 => ?_)
      · exact g_retl (by rw [dropCons (α := EOrd) (Ty.dflt tOrd) (by omega : i < f.2.2.2.2.length), ordsE]; simp only [h0, h1, if_false, Bool.false_eq_true])
      · refine g_need (by rw [i64_iff]; constructor <;> omega) ?_
        refine g_stop (RunN.keep [0, 1] (F2 (false :: true :: false :: true :: F16 (F8 (true :: true :: true :: F16 (false :: []))))) n0 (by decide) rfl rfl ?_)
        have ht := func_l0 p f (i + 1) hq hn (fun h => hj (by rw [dropCons (α := EOrd) (Ty.dflt tOrd) (by omega : i < f.2.2.2.2.length), ordsE]; rw [if_pos h1]; exact h)); rw [dropCons (α := EOrd) (Ty.dflt tOrd) (by omega : i < f.2.2.2.2.length), ordsE]; rw [if_pos h1]; exact ht
    · refine g_call (tries_fun f (hj (by rw [List.drop_eq_nil_of_le (by omega)]; rfl)) hn) (fun h => nomatch h) ?_
      exact g_retb (by rw [List.drop_eq_nil_of_le (by omega)]; rfl)
    )
  termination_by f.2.2.2.2.length - i
  decreasing_by all_goals omega
theorem function_fun (p : EProg) (f : EFn) (hn : f.2.2.2.2.length ≤ 600) (h60 : f.2.1 ≤ 60) : AFun Tryd.prog 83 [.agg (tProg.enc p), .agg (tFn.enc f)] (.c (.bool (functionF (toProg p) (toFn f)))) :=
  AFun.of oc50 func_lv 3000 Tryd.func83 mixed rfl (by decide) (Nat.le_of_ble_eq_true rfl) _ (func_T_ok p f) fun hF => by
    unfold func_T
    refine g_iteD (fun h0 => ?_) (fun h0 => ?_)
    · exact g_retl (by rw [← fnE_eq]; first | (simp only [fnE, headE, h0, if_true, if_false, Bool.false_eq_true]; done) | (simp_all [fnE, headE]; done))
    · refine g_iteD (fun h1 => ?_) (fun h1 => ?_)
      · exact g_retl (by rw [← fnE_eq]; first | (simp only [fnE, headE, h0, h1, if_true, if_false, Bool.false_eq_true]; done) | (simp_all [fnE, headE]; done))
      · refine g_iteD (fun h2 => ?_) (fun h2 => ?_)
        · exact g_retl (by rw [← fnE_eq]; first | (simp only [fnE, headE, h0, h1, h2, if_true, if_false, Bool.false_eq_true]; done) | (simp_all [fnE, headE]; done))
        · refine g_stop (RunN.keep [1, 2] (F2 (false :: true :: false :: true :: F16 (F8 (true :: true :: true :: F16 (false :: []))))) n0 (by decide) rfl rfl ?_)
          have ht := func_l0 p f 0 (by omega) hn (fun h => by rw [List.drop_zero, ordsE_eq] at h; exact orders_jumps h); rw [List.drop_zero] at ht; rw [← fnE_eq]; have e : headE f = true := (by simp only [headE, h0, h1, h2, if_true, if_false]); rw [fnE, if_pos e]; exact ht

end Go.Proofs.YtefkifdhjabdiaaDoor
namespace Go.Proofs.YtefkifdhjabdiaaDoor
set_option linter.unusedVariables false
set_option linter.unusedSimpArgs false
set_option maxRecDepth 100000
def wordsC : ByteArray := ⟨#[107, 105, 110, 100, 32, 114, 97, 110, 103, 101, 32, 122, 101, 114, 111, 32, 105, 110, 100, 101, 120, 32, 108, 97, 114, 103, 101, 32, 100, 101, 101, 112, 32, 115, 116, 97, 116, 101, 32, 99, 111, 117, 110, 116, 32, 110, 105, 108, 32, 98, 111, 111, 108, 32, 105, 110, 116, 32, 102, 108, 111, 97, 116, 32, 116, 101, 120, 116, 32, 111, 98, 106, 101, 99, 116, 32, 108, 105, 115, 116, 32, 102, 117, 110, 99, 116, 105, 111, 110, 32, 103, 101, 110, 101, 114, 97, 116, 111, 114, 32, 108, 111, 99, 107, 32, 119, 101, 97, 107]⟩
def spA (s : ByteArray) (i : Nat) : Int := globL1.getD (Int.toNat (UInt8.toNat (s[i]!) : Int)) (Ty.dflt (.int .u8))
def nxN (s : ByteArray) (n was : Int) (i : Nat) : Int := n + bitsF .and .i64 was (bitsF .xor .i64 (if IntKind.signed .i64 then -1 else IntKind.max .i64) (spA s i))
def m0 (s : ByteArray) : Nat → Int → Int → Int → Nat → Option Int
  | 0, _, _, _, _ => none
  | f + 1, n, was, bits, i => if i < s.size then (if inR .i64 (nxN s n was i) then m0 s f (nxN s n was i) (spA s i) (bitsF .or .u8 bits (UInt8.toNat (s[i]!) : Int)) (i + 1) else none) else if 128 ≤ bits then none else if 0 ≤ n ∧ n ≤ 1000 then some n else none
def wF (s : ByteArray) (n : Nat) : Nat → Bool → Nat → Nat → Nat → List ByteArray → Option (List ByteArray)
  | 0, _, _, _, _, _ => none
  | f + 1, true, na, fs, i, a => if i < s.size then (if spA s i = 0 then wF s n f true na fs (i + 1) a else if fs ≤ i ∧ na < n then wF s n f false (na + 1) 0 (i + 1) (a.set na (s.extract fs i)) else none) else if fs < s.size then (if na < n then some (a.set na (s.extract fs s.size)) else none) else some a
  | f + 1, false, na, _, i, a => if i < s.size then (if spA s i = 0 then wF s n f true na i i a else wF s n f false na 0 (i + 1) a) else wF s n f true na i i a
def w1F (s : ByteArray) (n : Nat) : Nat → Nat → List ByteArray → Option (List ByteArray)
  | 0, _, _ => none
  | f + 1, i, a => if i < s.size then (if spA s i = 0 then wF s n f true 0 i i a else w1F s n f (i + 1) a) else wF s n f true 0 i i a
theorem lenL1 : globL1.length = 256 := by kernel_rfl
def fields_lv : LV := ⟨(true :: F2 (true :: true :: true :: true :: F2 (true :: true :: true :: true :: F32 (F32 (F16 (F8 (F4 (false :: [])))))))), [13, 14]⟩
noncomputable def fields_T (s : ByteArray) : Tree :=
  .stop (lp (bodyOf Tryd.f142) 0) (.c (.str s) :: J2 (.c (.int .i64 0) :: .c (.int .i64 1) :: .c (.int .u8 0) :: .c (.int .i64 0) :: J32 (J32 (J32 (J2 (.junk :: [])))))) []
theorem fields_T_ok (s : ByteArray) : aRun Tryd.prog oc0 Tryd.f142 fields_lv 3000 [.code (bodyOf Tryd.f142)] ([.c (.str s)] ++ List.replicate (Func.ntmps Tryd.f142 - 1) .junk) [] = fields_T s := by kernel_rfl
noncomputable def fields_l0_R (s : ByteArray) (n : Int) (was : Int) (bits : Int) (i : Nat) : Tree :=
  .ite (decide (((i : Nat) : Int) < (s.size : Int)))
  (.need ((0 : Int) ≤ ((i : Nat) : Int) ∧ (((i : Nat) : Int) : Int) < (s.size : Int)) <|
   .need ((0 : Int) ≤ (UInt8.toNat (s[i]!) : Int) ∧ ((UInt8.toNat (s[i]!) : Int) : Int) < ((256 : Nat) : Int) ∧ 256 ≤ globL1.length) <|
   .need ((Int.toNat (UInt8.toNat (s[i]!) : Int)) < globL1.length) <|
   .need (inR .i64 (n + (bitsF .and .i64 was (bitsF .xor .i64 (if IntKind.signed .i64 then -1 else IntKind.max .i64) (globL1.getD (Int.toNat (UInt8.toNat (s[i]!) : Int)) ((.int .u8) : Ty).dflt))))) <|
   .need (inR .i64 (((i : Nat) : Int) + 1)) <|
   .stop (lp (bodyOf Tryd.f142) 0) (.c (.str s) :: J2 (.c (.int .i64 (n + (bitsF .and .i64 was (bitsF .xor .i64 (if IntKind.signed .i64 then -1 else IntKind.max .i64) (globL1.getD (Int.toNat (UInt8.toNat (s[i]!) : Int)) ((.int .u8) : Ty).dflt))))) :: .c (.int .i64 (globL1.getD (Int.toNat (UInt8.toNat (s[i]!) : Int)) ((.int .u8) : Ty).dflt)) :: .c (.int .u8 (bitsF .or .u8 bits (UInt8.toNat (s[i]!) : Int))) :: .c (.int .i64 (((i : Nat) : Int) + 1)) :: J32 (J32 (J32 (J2 (.junk :: [])))))) [])
  (.ite (decide ((128 : Int) ≤ bits))
   (.stop (rg (bodyOf Tryd.f142) 13) (.c (.str s) :: J2 (.c (.int .i64 n) :: .c (.int .i64 was) :: .c (.int .u8 bits) :: .c (.int .i64 ((i : Nat) : Int)) :: J32 (J32 (J32 (J2 (.junk :: [])))))) [])
   (.stop (rg (bodyOf Tryd.f142) 14) (.c (.str s) :: J2 (.c (.int .i64 n) :: .c (.int .i64 was) :: .c (.int .u8 bits) :: .c (.int .i64 ((i : Nat) : Int)) :: J32 (J32 (J32 (J2 (.junk :: [])))))) []))
theorem fields_l0_R_ok (s : ByteArray) (n : Int) (was : Int) (bits : Int) (i : Nat) : aRound Tryd.prog oc0 Tryd.f142 fields_lv 3000 (lp (bodyOf Tryd.f142) 0) (.c (.str s) :: J2 (.c (.int .i64 n) :: .c (.int .i64 was) :: .c (.int .u8 bits) :: .c (.int .i64 ((i : Nat) : Int)) :: J32 (J32 (J32 (J2 (.junk :: [])))))) [] = fields_l0_R s n was bits i := by kernel_rfl
noncomputable def fields_r14_R (s : ByteArray) (N : Int) : Tree :=
  .need ((0 : Int) ≤ N ∧ (N : Int) ≤ N ∧ (N : Int) ≤ 140737488355328 ∧ (16 : Int) * N ≤ 140737488355328) <|
  .stop (lp (bodyOf Tryd.f142) 1) (.c (.str s) :: J2 (.c (.int .i64 N) :: J4 (.junk :: .c (.sl 0 1 0 (Int.toNat N)) :: .c (.int .i64 0) :: .c (.int .i64 0) :: .c (.int .i64 0) :: J32 (J32 (J16 (J8 (J4 (.junk :: [])))))))) [.vec 9 .str (List.replicate (Int.toNat N) ByteArray.empty)]
theorem fields_r14_R_ok (s : ByteArray) (N : Int) : aRound Tryd.prog oc0 Tryd.f142 fields_lv 3000 (rg (bodyOf Tryd.f142) 14) (.c (.str s) :: J2 (.c (.int .i64 N) :: J32 (J32 (J32 (J4 (J2 ([]))))))) [] = fields_r14_R s N := by kernel_rfl
noncomputable def fields_l1_R (s : ByteArray) (n : Nat) (a : List ByteArray) (i : Nat) : Tree :=
  .ite (decide (((i : Nat) : Int) < (s.size : Int)))
  (.need ((0 : Int) ≤ ((i : Nat) : Int) ∧ (((i : Nat) : Int) : Int) < (s.size : Int)) <|
   .need ((0 : Int) ≤ (UInt8.toNat (s[i]!) : Int) ∧ ((UInt8.toNat (s[i]!) : Int) : Int) < ((256 : Nat) : Int) ∧ 256 ≤ globL1.length) <|
   .need ((Int.toNat (UInt8.toNat (s[i]!) : Int)) < globL1.length) <|
   .ite ((!(decide ((globL1.getD (Int.toNat (UInt8.toNat (s[i]!) : Int)) ((.int .u8) : Ty).dflt) = 0))))
   (.need (inR .i64 (((i : Nat) : Int) + 1)) <|
    .stop (lp (bodyOf Tryd.f142) 1) (.c (.str s) :: J8 (.c (.sl 0 1 0 n) :: .c (.int .i64 0) :: .junk :: .c (.int .i64 (((i : Nat) : Int) + 1)) :: J32 (J32 (J16 (J8 (J4 (.junk :: []))))))) [.vec 9 .str a])
   (.stop (lp (bodyOf Tryd.f142) 2) (.c (.str s) :: J8 (.c (.sl 0 1 0 n) :: .c (.int .i64 0) :: .c (.int .i64 ((i : Nat) : Int)) :: .c (.int .i64 ((i : Nat) : Int)) :: J32 (J32 (J16 (J8 (J4 (.junk :: []))))))) [.vec 9 .str a]))
  (.stop (lp (bodyOf Tryd.f142) 2) (.c (.str s) :: J8 (.c (.sl 0 1 0 n) :: .c (.int .i64 0) :: .c (.int .i64 ((i : Nat) : Int)) :: .c (.int .i64 ((i : Nat) : Int)) :: J32 (J32 (J16 (J8 (J4 (.junk :: []))))))) [.vec 9 .str a])
theorem fields_l1_R_ok (s : ByteArray) (n : Nat) (a : List ByteArray) (i : Nat) : aRound Tryd.prog oc0 Tryd.f142 fields_lv 3000 (lp (bodyOf Tryd.f142) 1) (.c (.str s) :: J8 (.c (.sl 0 1 0 n) :: .c (.int .i64 0) :: .junk :: .c (.int .i64 ((i : Nat) : Int)) :: J32 (J32 (J16 (J8 (J4 (.junk :: []))))))) [.vec 9 .str a] = fields_l1_R s n a i := by kernel_rfl
noncomputable def fields_l2_R (s : ByteArray) (n : Nat) (a : List ByteArray) (na : Nat) (fs : Nat) (i : Nat) : Tree :=
  .ite (decide (((i : Nat) : Int) < (s.size : Int)))
  (.need ((0 : Int) ≤ ((i : Nat) : Int) ∧ (((i : Nat) : Int) : Int) < (s.size : Int)) <|
   .need ((0 : Int) ≤ (UInt8.toNat (s[i]!) : Int) ∧ ((UInt8.toNat (s[i]!) : Int) : Int) < ((256 : Nat) : Int) ∧ 256 ≤ globL1.length) <|
   .need ((Int.toNat (UInt8.toNat (s[i]!) : Int)) < globL1.length) <|
   .ite (decide ((globL1.getD (Int.toNat (UInt8.toNat (s[i]!) : Int)) ((.int .u8) : Ty).dflt) = 0))
   (.need (inR .i64 (((i : Nat) : Int) + 1)) <|
    .stop (lp (bodyOf Tryd.f142) 2) (.c (.str s) :: J8 (.c (.sl 0 1 0 n) :: .c (.int .i64 ((na : Nat) : Int)) :: .c (.int .i64 ((fs : Nat) : Int)) :: .c (.int .i64 (((i : Nat) : Int) + 1)) :: J32 (J32 (J16 (J8 (J4 (.junk :: []))))))) [.vec 9 .str a])
   (.need ((0 : Int) ≤ ((fs : Nat) : Int) ∧ (((fs : Nat) : Int) : Int) ≤ ((i : Nat) : Int) ∧ (((i : Nat) : Int) : Int) ≤ (s.size : Int)) <|
    .need ((0 : Int) ≤ ((na : Nat) : Int) ∧ (((na : Nat) : Int) : Int) < ((n : Nat) : Int)) <|
    .need ((0 + na) < a.length) <|
    .need (inR .i64 (((na : Nat) : Int) + 1)) <|
    .need (inR .i64 (((i : Nat) : Int) + 1)) <|
    .stop (lp (bodyOf Tryd.f142) 3) (.c (.str s) :: J8 (.c (.sl 0 1 0 n) :: .c (.int .i64 (((na : Nat) : Int) + 1)) :: .c (.int .i64 ((fs : Nat) : Int)) :: .c (.int .i64 (((i : Nat) : Int) + 1)) :: J32 (J32 (J16 (J8 (J4 (.junk :: []))))))) [.vec 9 .str (a.set (0 + na) (s.extract fs i))]))
  (.ite (decide (((fs : Nat) : Int) < (s.size : Int)))
   (.need ((0 : Int) ≤ ((fs : Nat) : Int) ∧ (((fs : Nat) : Int) : Int) ≤ (s.size : Int)) <|
    .need ((0 : Int) ≤ ((na : Nat) : Int) ∧ (((na : Nat) : Int) : Int) < ((n : Nat) : Int)) <|
    .need ((0 + na) < a.length) <|
    .ret (.c (.sl 0 1 0 n)) [.vec 9 .str (a.set (0 + na) (s.extract fs s.size))])
   (.ret (.c (.sl 0 1 0 n)) [.vec 9 .str a]))
theorem fields_l2_R_ok (s : ByteArray) (n : Nat) (a : List ByteArray) (na : Nat) (fs : Nat) (i : Nat) : aRound Tryd.prog oc0 Tryd.f142 fields_lv 3000 (lp (bodyOf Tryd.f142) 2) (.c (.str s) :: J8 (.c (.sl 0 1 0 n) :: .c (.int .i64 ((na : Nat) : Int)) :: .c (.int .i64 ((fs : Nat) : Int)) :: .c (.int .i64 ((i : Nat) : Int)) :: J32 (J32 (J16 (J8 (J4 (.junk :: []))))))) [.vec 9 .str a] = fields_l2_R s n a na fs i := by kernel_rfl
noncomputable def fields_l3_R (s : ByteArray) (n : Nat) (a : List ByteArray) (na : Nat) (i : Nat) : Tree :=
  .ite (decide (((i : Nat) : Int) < (s.size : Int)))
  (.need ((0 : Int) ≤ ((i : Nat) : Int) ∧ (((i : Nat) : Int) : Int) < (s.size : Int)) <|
   .need ((0 : Int) ≤ (UInt8.toNat (s[i]!) : Int) ∧ ((UInt8.toNat (s[i]!) : Int) : Int) < ((256 : Nat) : Int) ∧ 256 ≤ globL1.length) <|
   .need ((Int.toNat (UInt8.toNat (s[i]!) : Int)) < globL1.length) <|
   .ite ((!(decide ((globL1.getD (Int.toNat (UInt8.toNat (s[i]!) : Int)) ((.int .u8) : Ty).dflt) = 0))))
   (.need (inR .i64 (((i : Nat) : Int) + 1)) <|
    .stop (lp (bodyOf Tryd.f142) 3) (.c (.str s) :: J8 (.c (.sl 0 1 0 n) :: .c (.int .i64 ((na : Nat) : Int)) :: .junk :: .c (.int .i64 (((i : Nat) : Int) + 1)) :: J32 (J32 (J16 (J8 (J4 (.junk :: []))))))) [.vec 9 .str a])
   (.stop (lp (bodyOf Tryd.f142) 2) (.c (.str s) :: J8 (.c (.sl 0 1 0 n) :: .c (.int .i64 ((na : Nat) : Int)) :: .c (.int .i64 ((i : Nat) : Int)) :: .c (.int .i64 ((i : Nat) : Int)) :: J32 (J32 (J16 (J8 (J4 (.junk :: []))))))) [.vec 9 .str a]))
  (.stop (lp (bodyOf Tryd.f142) 2) (.c (.str s) :: J8 (.c (.sl 0 1 0 n) :: .c (.int .i64 ((na : Nat) : Int)) :: .c (.int .i64 ((i : Nat) : Int)) :: .c (.int .i64 ((i : Nat) : Int)) :: J32 (J32 (J16 (J8 (J4 (.junk :: []))))))) [.vec 9 .str a])
theorem fields_l3_R_ok (s : ByteArray) (n : Nat) (a : List ByteArray) (na : Nat) (i : Nat) : aRound Tryd.prog oc0 Tryd.f142 fields_lv 3000 (lp (bodyOf Tryd.f142) 3) (.c (.str s) :: J8 (.c (.sl 0 1 0 n) :: .c (.int .i64 ((na : Nat) : Int)) :: .junk :: .c (.int .i64 ((i : Nat) : Int)) :: J32 (J32 (J16 (J8 (J4 (.junk :: []))))))) [.vec 9 .str a] = fields_l3_R s n a na i := by kernel_rfl
theorem fields_w (s : ByteArray) (W : List ByteArray) (hs : s.size ≤ 1000) : ∀ f : Nat, (∀ (n : Nat) (a : List ByteArray) (na fs i : Nat), a.length = n → n ≤ 1000 → wF s n f true na fs i a = some W → Run Tryd.prog 142 (retQ Tryd.prog (.c (.ro .str W))) (lp (bodyOf Tryd.f142) 2) (.c (.str s) :: J8 (.c (.sl 0 1 0 n) :: .c (.int .i64 ((na : Nat) : Int)) :: .c (.int .i64 ((fs : Nat) : Int)) :: .c (.int .i64 ((i : Nat) : Int)) :: J32 (J32 (J16 (J8 (J4 (.junk :: []))))))) [.vec 9 .str a]) ∧ (∀ (n : Nat) (a : List ByteArray) (na fs i : Nat), a.length = n → n ≤ 1000 → wF s n f false na fs i a = some W → Run Tryd.prog 142 (retQ Tryd.prog (.c (.ro .str W))) (lp (bodyOf Tryd.f142) 3) (.c (.str s) :: J8 (.c (.sl 0 1 0 n) :: .c (.int .i64 ((na : Nat) : Int)) :: .junk :: .c (.int .i64 ((i : Nat) : Int)) :: J32 (J32 (J16 (J8 (J4 (.junk :: []))))))) [.vec 9 .str a]) := by
  intro f
  induction f with
  | zero => exact ⟨fun n a na fs i _ _ h => absurd h (by simp [wF]), fun n a na fs i _ _ h => absurd h (by simp [wF])⟩
  | succ f ih =>
    refine ⟨fun n a na fs i ha hn hm => ?_, fun n a na fs i ha hn hm => ?_⟩
    · unfold wF at hm
      refine Run.roundA oc0 fields_lv 3000 Tryd.func142 mixed (fields_l2_R s n a na fs i) (fields_l2_R_ok s n a na fs i) ?_
      unfold fields_l2_R
      refine g_iteD (fun h0 => ?_) (fun h0 => ?_)
      · refine g_need (by omega) ?_
        refine g_need (by have hb := (s[i]!).toNat_lt; have hL := lenL1; first | omega | (constructor <;> omega) | (refine ⟨?_, ?_, ?_⟩ <;> omega) | (rw [i64_iff]; constructor <;> omega)) ?_
        refine g_need (by have hb := (s[i]!).toNat_lt; have hL := lenL1; first | omega | (constructor <;> omega) | (refine ⟨?_, ?_, ?_⟩ <;> omega) | (rw [i64_iff]; constructor <;> omega)) ?_
        refine g_iteD (fun h1 => ?_) (fun h1 => ?_)
        · refine g_need (by have hb := (s[i]!).toNat_lt; have hL := lenL1; first | omega | (constructor <;> omega) | (refine ⟨?_, ?_, ?_⟩ <;> omega) | (rw [i64_iff]; constructor <;> omega)) ?_
          refine g_stop (RunN.keep [0] (true :: F8 (true :: true :: true :: true :: F32 (F32 (F16 (F8 (F4 (false :: []))))))) n0 (by decide) rfl rfl ?_)
          rw [if_pos (by omega), if_pos (show spA s i = 0 from h1)] at hm; exact ih.1 n a na fs (i + 1) ha hn hm
        · refine g_need (by have q : fs ≤ i ∧ na < n := (by rcases Decidable.em (fs ≤ i ∧ na < n) with q | q; exact q; rw [if_pos (by omega), if_neg (show ¬ spA s i = 0 from h1), if_neg q] at hm; cases hm); first | omega | (constructor <;> omega) | (refine ⟨?_, ?_, ?_⟩ <;> omega) | (rw [i64_iff]; constructor <;> omega)) ?_
          refine g_need (by have q : fs ≤ i ∧ na < n := (by rcases Decidable.em (fs ≤ i ∧ na < n) with q | q; exact q; rw [if_pos (by omega), if_neg (show ¬ spA s i = 0 from h1), if_neg q] at hm; cases hm); first | omega | (constructor <;> omega) | (refine ⟨?_, ?_, ?_⟩ <;> omega) | (rw [i64_iff]; constructor <;> omega)) ?_
          refine g_need (by have q : fs ≤ i ∧ na < n := (by rcases Decidable.em (fs ≤ i ∧ na < n) with q | q; exact q; rw [if_pos (by omega), if_neg (show ¬ spA s i = 0 from h1), if_neg q] at hm; cases hm); first | omega | (constructor <;> omega) | (refine ⟨?_, ?_, ?_⟩ <;> omega) | (rw [i64_iff]; constructor <;> omega)) ?_
          refine g_need (by have q : fs ≤ i ∧ na < n := (by rcases Decidable.em (fs ≤ i ∧ na < n) with q | q; exact q; rw [if_pos (by omega), if_neg (show ¬ spA s i = 0 from h1), if_neg q] at hm; cases hm); first | omega | (constructor <;> omega) | (refine ⟨?_, ?_, ?_⟩ <;> omega) | (rw [i64_iff]; constructor <;> omega)) ?_
          refine g_need (by have hb := (s[i]!).toNat_lt; have hL := lenL1; first | omega | (constructor <;> omega) | (refine ⟨?_, ?_, ?_⟩ <;> omega) | (rw [i64_iff]; constructor <;> omega)) ?_
          refine g_stop (RunN.keep [0] (true :: F8 (true :: true :: false :: true :: F32 (F32 (F16 (F8 (F4 (false :: []))))))) n0 (by decide) rfl rfl ?_)
          have q : fs ≤ i ∧ na < n := (by rcases Decidable.em (fs ≤ i ∧ na < n) with q | q; exact q; rw [if_pos (by omega), if_neg (show ¬ spA s i = 0 from h1), if_neg q] at hm; cases hm); rw [if_pos (by omega), if_neg (show ¬ spA s i = 0 from h1), if_pos q] at hm; rw [Nat.zero_add]; exact ih.2 n (a.set na (s.extract fs i)) (na + 1) 0 (i + 1) (by simpa using ha) hn hm
      · refine g_iteD (fun h1 => ?_) (fun h1 => ?_)
        · refine g_need (by omega) ?_
          refine g_need (by have q : na < n := (by rcases Decidable.em (na < n) with q | q; exact q; rw [if_neg (by omega), if_pos (by omega), if_neg q] at hm; cases hm); first | omega | (constructor <;> omega) | (refine ⟨?_, ?_, ?_⟩ <;> omega) | (rw [i64_iff]; constructor <;> omega)) ?_
          refine g_need (by have q : na < n := (by rcases Decidable.em (na < n) with q | q; exact q; rw [if_neg (by omega), if_pos (by omega), if_neg q] at hm; cases hm); first | omega | (constructor <;> omega) | (refine ⟨?_, ?_, ?_⟩ <;> omega) | (rw [i64_iff]; constructor <;> omega)) ?_
          exact g_rs rfl (by (simp [ha])) (by (try rw [Nat.zero_add]); first | (have q : na < n := (by rcases Decidable.em (na < n) with q | q; exact q; rw [if_neg (by omega), if_pos (by omega), if_neg q] at hm; cases hm); rw [if_neg (by omega), if_pos (by omega), if_pos q] at hm; injection hm) | (rw [if_neg (by omega), if_neg (by omega)] at hm; injection hm))
        · exact g_rs rfl (by omega) (by (try rw [Nat.zero_add]); first | (have q : na < n := (by rcases Decidable.em (na < n) with q | q; exact q; rw [if_neg (by omega), if_pos (by omega), if_neg q] at hm; cases hm); rw [if_neg (by omega), if_pos (by omega), if_pos q] at hm; injection hm) | (rw [if_neg (by omega), if_neg (by omega)] at hm; injection hm))
    · unfold wF at hm
      refine Run.roundA oc0 fields_lv 3000 Tryd.func142 mixed (fields_l3_R s n a na i) (fields_l3_R_ok s n a na i) ?_
      unfold fields_l3_R
      refine g_iteD (fun h0 => ?_) (fun h0 => ?_)
      · refine g_need (by omega) ?_
        refine g_need (by have hb := (s[i]!).toNat_lt; have hL := lenL1; first | omega | (constructor <;> omega) | (refine ⟨?_, ?_, ?_⟩ <;> omega) | (rw [i64_iff]; constructor <;> omega)) ?_
        refine g_need (by have hb := (s[i]!).toNat_lt; have hL := lenL1; first | omega | (constructor <;> omega) | (refine ⟨?_, ?_, ?_⟩ <;> omega) | (rw [i64_iff]; constructor <;> omega)) ?_
        refine g_iteND (fun h1 => ?_) (fun h1 => ?_)
        · refine g_need (by have hb := (s[i]!).toNat_lt; have hL := lenL1; first | omega | (constructor <;> omega) | (refine ⟨?_, ?_, ?_⟩ <;> omega) | (rw [i64_iff]; constructor <;> omega)) ?_
          refine g_stop (RunN.keep [0] (true :: F8 (true :: true :: false :: true :: F32 (F32 (F16 (F8 (F4 (false :: []))))))) n0 (by decide) rfl rfl ?_)
          rw [if_pos (by omega), if_neg (show ¬ spA s i = 0 from h1)] at hm; exact ih.2 n a na 0 (i + 1) ha hn hm
        · refine g_stop (RunN.keep [0] (true :: F8 (true :: true :: true :: true :: F32 (F32 (F16 (F8 (F4 (false :: []))))))) n0 (by decide) rfl rfl ?_)
          first | (rw [if_neg (by omega)] at hm; exact ih.1 n a na i i ha hn hm) | (rw [if_pos (by omega), if_pos (show spA s i = 0 from h1)] at hm; exact ih.1 n a na i i ha hn hm)
      · refine g_stop (RunN.keep [0] (true :: F8 (true :: true :: true :: true :: F32 (F32 (F16 (F8 (F4 (false :: []))))))) n0 (by decide) rfl rfl ?_)
        first | (rw [if_neg (by omega)] at hm; exact ih.1 n a na i i ha hn hm) | (rw [if_pos (by omega), if_pos (show spA s i = 0 from h1)] at hm; exact ih.1 n a na i i ha hn hm)
theorem fields_w1 (s : ByteArray) (W : List ByteArray) (hs : s.size ≤ 1000) : ∀ (f : Nat) (n : Nat) (a : List ByteArray) (i : Nat), a.length = n → n ≤ 1000 → w1F s n f i a = some W → Run Tryd.prog 142 (retQ Tryd.prog (.c (.ro .str W))) (lp (bodyOf Tryd.f142) 1) (.c (.str s) :: J8 (.c (.sl 0 1 0 n) :: .c (.int .i64 0) :: .junk :: .c (.int .i64 ((i : Nat) : Int)) :: J32 (J32 (J16 (J8 (J4 (.junk :: []))))))) [.vec 9 .str a] := by
  intro f
  induction f with
  | zero => exact fun n a i _ _ h => absurd h (by simp [w1F])
  | succ f ih =>
    intro n a i ha hn hm
    unfold w1F at hm
    refine Run.roundA oc0 fields_lv 3000 Tryd.func142 mixed (fields_l1_R s n a i) (fields_l1_R_ok s n a i) ?_
    unfold fields_l1_R
    refine g_iteD (fun h0 => ?_) (fun h0 => ?_)
    · refine g_need (by omega) ?_
      refine g_need (by have hb := (s[i]!).toNat_lt; have hL := lenL1; first | omega | (constructor <;> omega) | (refine ⟨?_, ?_, ?_⟩ <;> omega) | (rw [i64_iff]; constructor <;> omega)) ?_
      refine g_need (by have hb := (s[i]!).toNat_lt; have hL := lenL1; first | omega | (constructor <;> omega) | (refine ⟨?_, ?_, ?_⟩ <;> omega) | (rw [i64_iff]; constructor <;> omega)) ?_
      refine g_iteND (fun h1 => ?_) (fun h1 => ?_)
      · refine g_need (by have hb := (s[i]!).toNat_lt; have hL := lenL1; first | omega | (constructor <;> omega) | (refine ⟨?_, ?_, ?_⟩ <;> omega) | (rw [i64_iff]; constructor <;> omega)) ?_
        refine g_stop (RunN.keep [0] (true :: F8 (true :: true :: false :: true :: F32 (F32 (F16 (F8 (F4 (false :: []))))))) n0 (by decide) rfl rfl ?_)
        rw [if_pos (by omega), if_neg (show ¬ spA s i = 0 from h1)] at hm; exact ih n a (i + 1) ha hn hm
      · refine g_stop (RunN.keep [0] (true :: F8 (true :: true :: true :: true :: F32 (F32 (F16 (F8 (F4 (false :: []))))))) n0 (by decide) rfl rfl ?_)
        first | (rw [if_neg (by omega)] at hm; exact (fields_w s W hs f).1 n a 0 i i ha hn hm) | (rw [if_pos (by omega), if_pos (show spA s i = 0 from h1)] at hm; exact (fields_w s W hs f).1 n a 0 i i ha hn hm)
    · refine g_stop (RunN.keep [0] (true :: F8 (true :: true :: true :: true :: F32 (F32 (F16 (F8 (F4 (false :: []))))))) n0 (by decide) rfl rfl ?_)
      first | (rw [if_neg (by omega)] at hm; exact (fields_w s W hs f).1 n a 0 i i ha hn hm) | (rw [if_pos (by omega), if_pos (show spA s i = 0 from h1)] at hm; exact (fields_w s W hs f).1 n a 0 i i ha hn hm)
theorem fields_14 (s : ByteArray) (N : Int) (W : List ByteArray) (f : Nat) (hs : s.size ≤ 1000) (hN : 0 ≤ N ∧ N ≤ 1000) (hm : w1F s N.toNat f 0 (List.replicate N.toNat ByteArray.empty) = some W) : Run Tryd.prog 142 (retQ Tryd.prog (.c (.ro .str W))) (rg (bodyOf Tryd.f142) 14) (.c (.str s) :: J2 (.c (.int .i64 N) :: J32 (J32 (J32 (J4 (J2 ([]))))))) [] := by
  refine Run.roundA oc0 fields_lv 3000 Tryd.func142 mixed (fields_r14_R s N) (fields_r14_R_ok s N) ?_
  unfold fields_r14_R
  refine g_need (by refine ⟨by omega, by omega, by omega, by omega⟩) ?_
  refine g_stop (RunN.keep [0] (true :: F8 (true :: true :: false :: true :: F32 (F32 (F16 (F8 (F4 (false :: []))))))) n0 (by decide) rfl rfl ?_)
  exact fields_w1 s W hs f N.toNat _ 0 (by simp) (by omega) hm
theorem fields_m (s : ByteArray) (N : Int) (W : List ByteArray) (hs : s.size ≤ 1000) (h14 : Run Tryd.prog 142 (retQ Tryd.prog (.c (.ro .str W))) (rg (bodyOf Tryd.f142) 14) (.c (.str s) :: J2 (.c (.int .i64 N) :: J32 (J32 (J32 (J4 (J2 ([]))))))) []) : ∀ (f : Nat) (n was bits : Int) (i : Nat), m0 s f n was bits i = some N → Run Tryd.prog 142 (retQ Tryd.prog (.c (.ro .str W))) (lp (bodyOf Tryd.f142) 0) (.c (.str s) :: J2 (.c (.int .i64 n) :: .c (.int .i64 was) :: .c (.int .u8 bits) :: .c (.int .i64 ((i : Nat) : Int)) :: J32 (J32 (J32 (J2 (.junk :: [])))))) [] := by
  intro f
  induction f with
  | zero => exact fun n was bits i h => absurd h (by simp [m0])
  | succ f ih =>
    intro n was bits i hm
    unfold m0 at hm
    refine Run.roundA oc0 fields_lv 3000 Tryd.func142 mixed (fields_l0_R s n was bits i) (fields_l0_R_ok s n was bits i) ?_
    unfold fields_l0_R
    refine g_iteD (fun h0 => ?_) (fun h0 => ?_)
    · refine g_need (by omega) ?_
      refine g_need (by have hb := (s[i]!).toNat_lt; have hL := lenL1; first | omega | (constructor <;> omega) | (refine ⟨?_, ?_, ?_⟩ <;> omega) | (rw [i64_iff]; constructor <;> omega)) ?_
      refine g_need (by have hb := (s[i]!).toNat_lt; have hL := lenL1; first | omega | (constructor <;> omega) | (refine ⟨?_, ?_, ?_⟩ <;> omega) | (rw [i64_iff]; constructor <;> omega)) ?_
      refine g_need (by rw [if_pos (by omega)] at hm; split at hm; assumption; cases hm) ?_
      refine g_need (by have hb := (s[i]!).toNat_lt; have hL := lenL1; first | omega | (constructor <;> omega) | (refine ⟨?_, ?_, ?_⟩ <;> omega) | (rw [i64_iff]; constructor <;> omega)) ?_
      refine g_stop (RunN.keep [] (true :: F2 (true :: true :: true :: true :: F32 (F32 (F32 (F2 (false :: [])))))) n0 (by decide) rfl rfl ?_)
      rw [if_pos (by omega)] at hm; split at hm; exact ih _ _ _ _ hm; cases hm
    · refine g_iteD (fun h1 => ?_) (fun h1 => ?_)
      · refine g_stop (RunN.keep [] (true :: F32 (F32 (F32 (F8 (false :: []))))) n0 (by decide) rfl rfl ?_)
        exfalso; rw [if_neg (by omega), if_pos (by assumption)] at hm; cases hm
      · refine g_stop (RunN.keep [] (true :: F2 (true :: F32 (F32 (F32 (F4 (F2 ([]))))))) n0 (by decide) rfl rfl ?_)
        rw [if_neg (by omega), if_neg (by assumption)] at hm; split at hm; injection hm with hm; subst hm; exact h14; cases hm
theorem fields_fun (s : ByteArray) (N : Int) (W : List ByteArray) (f1 f2 : Nat) (hs : s.size ≤ 1000) (hN : 0 ≤ N ∧ N ≤ 1000) (hm : m0 s f1 0 1 0 0 = some N) (hw : w1F s N.toNat f2 0 (List.replicate N.toNat ByteArray.empty) = some W) : AFun Tryd.prog 142 [.c (.str s)] (.c (.ro .str (W))) :=
  AFun.of oc0 fields_lv 3000 Tryd.func142 mixed rfl (by decide) (Nat.le_of_ble_eq_true rfl) _ (fields_T_ok s) fun hF => by
    unfold fields_T
    refine g_stop (RunN.keep [] (true :: F2 (true :: true :: true :: true :: F32 (F32 (F32 (F2 (false :: [])))))) n0 (by decide) rfl rfl ?_)
    exact fields_m s N W hs (fields_14 s N W f2 hs hN hw) f1 0 1 0 0 hm

end Go.Proofs.YtefkifdhjabdiaaDoor
namespace Go.Proofs.YtefkifdhjabdiaaDoor
set_option linter.unusedVariables false
set_option linter.unusedSimpArgs false
set_option maxRecDepth 100000
theorem words_m : m0 wordsC 300 0 1 0 0 = some 19 := by kernel_rfl
noncomputable def wordsL : List ByteArray := (w1F wordsC 19 300 0 (List.replicate 19 ByteArray.empty)).getD []
theorem words_some : (w1F wordsC 19 300 0 (List.replicate 19 ByteArray.empty)).isSome = true := by kernel_rfl
theorem words_w : w1F wordsC (Int.toNat 19) 300 0 (List.replicate (Int.toNat 19) ByteArray.empty) = some wordsL := by
  show w1F wordsC 19 300 0 (List.replicate 19 ByteArray.empty) = some wordsL
  unfold wordsL
  have h := words_some
  cases hq : w1F wordsC 19 300 0 (List.replicate 19 ByteArray.empty) with
  | none => rw [hq] at h; cases h
  | some l => rfl
theorem words_size : wordsC.size ≤ 1000 := by decide
noncomputable def oc15 : Orc where
  pure := fun f args => match f, args with
    | 142, [a0] => match dA .str a0 with
      | some x0 => some (.c (.ro .str (wordsL)))
      | _ => none
    | _, _ => none
  heap := fun _ _ _ => none
def words_lv : LV := ⟨([]), []⟩
noncomputable def words_T  : Tree :=
  .call 142 [.c (.str wordsC)] false (.c (.ro .str wordsL)) <|
  .ret (.c (.ro .str wordsL)) []
theorem words_T_ok  : aRun Tryd.prog oc15 Tryd.f116 words_lv 3000 [.code (bodyOf Tryd.f116)] ([] ++ List.replicate (Func.ntmps Tryd.f116 - 0) .junk) [] = words_T  := by kernel_rfl
theorem words_fun  : AFun Tryd.prog 116 [] (.c (.ro .str (wordsL))) :=
  AFun.of oc15 words_lv 3000 Tryd.func116 mixed rfl (by decide) (Nat.le_of_ble_eq_true rfl) _ (words_T_ok ) fun hF => by
    unfold words_T
    refine g_call (fields_fun _ 19 _ 300 300 words_size (by decide) words_m words_w) (fun h => nomatch h) ?_
    exact g_rt rfl rfl (by simp [leAV, leA1, leC])

theorem drop_eqL {α : Type} [DecidableEq α] {a b : List α} {i : Nat} (d : α) (hl : a.length = b.length) (hi : i < a.length) : (a.drop i = b.drop i) ↔ (a.getD i d = b.getD i d ∧ a.drop (i + 1) = b.drop (i + 1)) := by
  rw [dropCons (l := a) d hi, dropCons (l := b) d (by omega), List.cons.injEq]
def eqS_lv : LV := ⟨(true :: true :: F8 (F2 (true :: true :: F8 (F4 ([]))))), []⟩
noncomputable def eqS_T (a : List ByteArray) (b : List ByteArray) : Tree :=
  .ite ((!(decide ((a.length : Int) = (b.length : Int)))))
  (.ret (.c (.lit false)) [])
  (.stop (lp (bodyOf Tryd.f117) 0) (.c (.ro .str a) :: .c (.ro .str b) :: J8 (J2 (.c (.int .i64 (a.length : Int)) :: .c (.int .i64 0) :: J8 (J4 ([]))))) [])
theorem eqS_T_ok (a : List ByteArray) (b : List ByteArray) : aRun Tryd.prog oc0 Tryd.f117 eqS_lv 3000 [.code (bodyOf Tryd.f117)] ([.c (.ro .str a), .c (.ro .str b)] ++ List.replicate (Func.ntmps Tryd.f117 - 2) .junk) [] = eqS_T a b := by kernel_rfl
noncomputable def eqS_l0_R (a : List ByteArray) (b : List ByteArray) (i : Nat) : Tree :=
  .ite (decide (((i : Nat) : Int) < (a.length : Int)))
  (.need ((0 : Int) ≤ ((i : Nat) : Int) ∧ (((i : Nat) : Int) : Int) < (a.length : Int)) <|
   .need (i < a.length) <|
   .need ((0 : Int) ≤ ((i : Nat) : Int) ∧ (((i : Nat) : Int) : Int) < (b.length : Int)) <|
   .need (i < b.length) <|
   .ite ((!(decide ((a.getD i (.str : Ty).dflt) = (b.getD i (.str : Ty).dflt)))))
   (.ret (.c (.lit false)) [])
   (.need (inR .i64 (((i : Nat) : Int) + 1)) <|
    .stop (lp (bodyOf Tryd.f117) 0) (.c (.ro .str a) :: .c (.ro .str b) :: J8 (J2 (.c (.int .i64 (a.length : Int)) :: .c (.int .i64 (((i : Nat) : Int) + 1)) :: J8 (J4 ([]))))) []))
  (.ret (.c (.lit true)) [])
theorem eqS_l0_R_ok (a : List ByteArray) (b : List ByteArray) (i : Nat) : aRound Tryd.prog oc0 Tryd.f117 eqS_lv 3000 (lp (bodyOf Tryd.f117) 0) (.c (.ro .str a) :: .c (.ro .str b) :: J8 (J2 (.c (.int .i64 (a.length : Int)) :: .c (.int .i64 ((i : Nat) : Int)) :: J8 (J4 ([]))))) [] = eqS_l0_R a b i := by kernel_rfl
theorem eqS_l0 (a : List ByteArray) (b : List ByteArray) (i : Nat) (hl : a.length = b.length) (hb : a.length ≤ 9223372036854775807) : Run Tryd.prog 117 (retQ Tryd.prog (.c (.bool (decide (a.drop i = b.drop i))))) (lp (bodyOf Tryd.f117) 0) (.c (.ro .str a) :: .c (.ro .str b) :: J8 (J2 (.c (.int .i64 (a.length : Int)) :: .c (.int .i64 ((i : Nat) : Int)) :: J8 (J4 ([]))))) [] :=
  Run.roundA oc0 eqS_lv 3000 Tryd.func117 mixed (eqS_l0_R a b i) (eqS_l0_R_ok a b i) (by
    unfold eqS_l0_R
    refine g_iteD (fun h0 => ?_) (fun h0 => ?_)
    · refine g_need (by omega) ?_
      refine g_need (by omega) ?_
      refine g_need (by omega) ?_
      refine g_need (by omega) ?_
      refine g_iteND (fun h1 => ?_) (fun h1 => ?_)
      · exact g_retl (by symm; rw [decide_eq_false_iff_not, drop_eqL (Ty.dflt .str) hl (by omega)]; exact fun q => h1 q.1)
      · refine g_need (i64_iff.2 (by omega)) ?_
        refine g_stop (RunN.keep [] (true :: true :: F8 (F2 (true :: true :: F8 (F4 ([]))))) n0 (by decide) rfl rfl ?_)
        have := eqS_l0 a b (i + 1) hl hb; have e : decide (a.drop i = b.drop i) = decide (a.drop (i + 1) = b.drop (i + 1)) := (by rw [decide_eq_decide, drop_eqL (Ty.dflt .str) hl (by omega)]; exact ⟨fun q => q.2, fun q => ⟨h1, q⟩⟩); rw [e]; exact this
    · exact g_retl (by rw [List.drop_eq_nil_of_le (by omega), List.drop_eq_nil_of_le (by omega)]; rfl)
    )
  termination_by a.length - i
  decreasing_by all_goals omega
theorem eqS_fun (a : List ByteArray) (b : List ByteArray) : AFun Tryd.prog 117 [.c (.ro .str a), .c (.ro .str b)] (.c (.bool (decide (a = b)))) :=
  AFun.of oc0 eqS_lv 3000 Tryd.func117 mixed rfl (by decide) (Nat.le_of_ble_eq_true rfl) _ (eqS_T_ok a b) fun hF => by
    unfold eqS_T
    refine g_iteND (fun h0 => ?_) (fun h0 => ?_)
    · exact g_retl (by symm; rw [decide_eq_false_iff_not]; intro q; exact h0 (by rw [q]))
    · refine g_stop (RunN.keep [] (true :: true :: F8 (F2 (true :: true :: F8 (F4 ([]))))) n0 (by decide) rfl rfl ?_)
      have := eqS_l0 a b 0 (by omega) hF.ro.1.1; exact this

end Go.Proofs.YtefkifdhjabdiaaDoor
namespace Go.Proofs.YtefkifdhjabdiaaDoor
set_option linter.unusedVariables false
set_option linter.unusedSimpArgs false
set_option maxRecDepth 100000
theorem lawStr : MapLaw Tryd.prog 9 .str := ⟨Maps.string_keyed Tryd.underlying9, fun x hx => by
  have hx : x.size ≤ 9223372036854775807 := hx
  have hm : x.size ≤ maxLen := hx
  exact ⟨.string x.data.toList, by simp [keyOf, mapKey, plainV, plainCs, Ty.isPair, Tryd.underlying9]; exact hm⟩⟩
def oddV (p : EProg) (v : EVal) : Bool := if rightVF v = true then (if v.1 = 5 then true else if v.1 = 4 then decide ((p.2.2.length : Int) ≤ v.2) else false) else true
noncomputable def oc16 : Orc where
  pure := fun f args => match f, args with
    | 85, [a0] => match dA tVal a0 with
      | some x0 => some (.c (.bool (rightVF x0)))
      | _ => none
    | _, _ => none
  heap := fun _ _ _ => none
def oddv_lv : LV := ⟨([]), []⟩
noncomputable def oddv_T (v : EVal) (p : EProg) : Tree :=
  .call 85 [.agg (Ty.enc tVal v)] false (.c (.bool (rightVF v))) <|
  .ite ((!(rightVF v)))
  (.ret (.c (.lit true)) [.cells 39 (Ty.enc tProg p), .cells 44 (Ty.enc tVal v)])
  (.ite (decide (v.1 = 5))
   (.ret (.c (.lit true)) [.cells 39 (Ty.enc tProg p), .cells 44 (Ty.enc tVal v)])
   (.ite (decide (v.1 = 4))
    (.ret (.c (.bool (decide ((p.2.2.length : Int) ≤ v.2)))) [.cells 39 (Ty.enc tProg p), .cells 44 (Ty.enc tVal v)])
    (.ret (.c (.lit false)) [.cells 39 (Ty.enc tProg p), .cells 44 (Ty.enc tVal v)])))
theorem oddv_T_ok (v : EVal) (p : EProg) : aRun Tryd.prog oc16 Tryd.f119 oddv_lv 3000 [.code (bodyOf Tryd.f119)] ([.agg (Ty.enc tVal v), .c (.ptr 0 0 0 0)] ++ List.replicate (Func.ntmps Tryd.f119 - 2) .junk) [.cells 39 (Ty.enc tProg p)] = oddv_T v p := by kernel_rfl
theorem oddv_fun (v : EVal) (p : EProg) : AFunH Tryd.prog 119 [.agg (Ty.enc tVal v), .c (.ptr 0 0 0 0)] [.cells 39 (Ty.enc tProg p)] (.c (.bool (oddV p v))) [.cells 39 (Ty.enc tProg p)] (List.range 1) :=
  AFunH.of oc16 oddv_lv 3000 Tryd.func119 mixed rfl (by decide) (Nat.le_of_ble_eq_true rfl) rfl rfl (Nat.le_refl _) _ (oddv_T_ok v p) fun hF => by
    unfold oddv_T
    refine g_call (rightV_fun v) (fun h => nomatch h) ?_
    refine g_iteN (fun h0 => ?_) (fun h0 => ?_)
    · exact g_rh [0] (show ∀ k, k < 1 → ([0] : List Nat)[k]? = some k by decide) (by decide) (by simp only [renA, ren1, renC, leAV, leA1, leC]; first | (simp only [oddV, h0, if_true, if_false, Bool.false_eq_true]; done) | (simp_all [oddV]; done)) rfl
    · refine g_iteD (fun h1 => ?_) (fun h1 => ?_)
      · exact g_rh [0] (show ∀ k, k < 1 → ([0] : List Nat)[k]? = some k by decide) (by decide) (by simp only [renA, ren1, renC, leAV, leA1, leC]; first | (simp only [oddV, h0, h1, if_true, if_false, Bool.false_eq_true]; done) | (simp_all [oddV]; done)) rfl
      · refine g_iteD (fun h2 => ?_) (fun h2 => ?_)
        · exact g_rh [0] (show ∀ k, k < 1 → ([0] : List Nat)[k]? = some k by decide) (by decide) (by simp only [renA, ren1, renC, leAV, leA1, leC]; first | (simp only [oddV, h0, h1, h2, if_true, if_false, Bool.false_eq_true]; done) | (simp_all [oddV]; done)) rfl
        · exact g_rh [0] (show ∀ k, k < 1 → ([0] : List Nat)[k]? = some k by decide) (by decide) (by simp only [renA, ren1, renC, leAV, leA1, leC]; first | (simp only [oddV, h0, h1, h2, if_true, if_false, Bool.false_eq_true]; done) | (simp_all [oddV]; done)) rfl

def firstV (q : EVal → Bool) : Nat → List EVal → Int
  | _, [] => -1
  | i, f :: r => if q f = true then (i : Int) else firstV q (i + 1) r
theorem firstV_ge {q : EVal → Bool} : ∀ {l : List EVal} {i : Nat}, decide (0 ≤ firstV q i l) = l.any q
  | [], i => rfl
  | f :: r, i => by
    unfold firstV
    rw [List.any_cons]
    split
    · rename_i h; rw [h]; simp
    · rename_i h; rw [firstV_ge (l := r)]; simp only [Bool.not_eq_true] at h; rw [h]; rfl
noncomputable def oc17 : Orc where
  pure := fun f args => match f, args with
    | _, _ => none
  heap := fun f args H => match f, args with
    | 119, [a0, .one (.c (.ptr 0 0 0 0))] => match H with
      | [b0] => (match dA tVal a0, dB 39 tProg b0 with
        | some x0, some y0 => some (.c (.bool (oddV y0 x0)), [b0], List.range 1)
        | _, _ => none)
      | _ => none
    | _, _ => none
def idxV_lv : LV := ⟨(true :: true :: F4 (false :: true :: true :: F8 (F2 ([])))), []⟩
noncomputable def idxV_T (l : List EVal) (p : EProg) : Tree :=
  .stop (lp (bodyOf Tryd.f143) 0) (.c (.ro tVal l) :: .c (.fnc (.fn0 119) (.ptr 0 0 0 0)) :: J4 (.junk :: .c (.int .i64 (l.length : Int)) :: .c (.int .i64 0) :: J8 (J2 ([])))) [.cells 39 (Ty.enc tProg p)]
theorem idxV_T_ok (l : List EVal) (p : EProg) : aRun Tryd.prog oc17 Tryd.f143 idxV_lv 3000 [.code (bodyOf Tryd.f143)] ([.c (.ro tVal l), .c (.fnc (.fn0 119) (.ptr 0 0 0 0))] ++ List.replicate (Func.ntmps Tryd.f143 - 2) .junk) [.cells 39 (Ty.enc tProg p)] = idxV_T l p := by kernel_rfl
noncomputable def idxV_l0_R (l : List EVal) (p : EProg) (i : Nat) : Tree :=
  .ite (decide (((i : Nat) : Int) < (l.length : Int)))
  (.need ((0 : Int) ≤ ((i : Nat) : Int) ∧ (((i : Nat) : Int) : Int) < (l.length : Int)) <|
   .need (i < l.length) <|
   .callH 119 [.agg [.int .i64 (l.getD i tVal.dflt).1, .int .i64 (l.getD i tVal.dflt).2], .c (.ptr 0 0 0 0)] [.cells 39 (Ty.enc tProg p)] (.c (.bool (oddV p (l.getD i tVal.dflt)))) [.cells 39 (Ty.enc tProg p)] [0] <|
   .ite (oddV p (l.getD i tVal.dflt))
   (.ret (.c (.int .i64 ((i : Nat) : Int))) [.cells 39 (Ty.enc tProg p)])
   (.need (inR .i64 (((i : Nat) : Int) + 1)) <|
    .stop (lp (bodyOf Tryd.f143) 0) (.c (.ro tVal l) :: .c (.fnc (.fn0 119) (.ptr 0 0 0 0)) :: J4 (.junk :: .c (.int .i64 (l.length : Int)) :: .c (.int .i64 (((i : Nat) : Int) + 1)) :: J8 (J2 ([])))) [.cells 39 (Ty.enc tProg p)]))
  (.ret (.c (.int .i64 (-1))) [.cells 39 (Ty.enc tProg p)])
theorem idxV_l0_R_ok (l : List EVal) (p : EProg) (i : Nat) : aRound Tryd.prog oc17 Tryd.f143 idxV_lv 3000 (lp (bodyOf Tryd.f143) 0) (.c (.ro tVal l) :: .c (.fnc (.fn0 119) (.ptr 0 0 0 0)) :: J4 (.junk :: .c (.int .i64 (l.length : Int)) :: .c (.int .i64 ((i : Nat) : Int)) :: J8 (J2 ([])))) [.cells 39 (Ty.enc tProg p)] = idxV_l0_R l p i := by kernel_rfl
theorem idxV_l0 (l : List EVal) (p : EProg) (i : Nat) (hl : l.length ≤ 9223372036854775807) : RunN 1 Tryd.prog 143 (retH 1 (.c (.int .i64 (firstV (oddV p) i (l.drop i)))) [.cells 39 (Ty.enc tProg p)]) (lp (bodyOf Tryd.f143) 0) (.c (.ro tVal l) :: .c (.fnc (.fn0 119) (.ptr 0 0 0 0)) :: J4 (.junk :: .c (.int .i64 (l.length : Int)) :: .c (.int .i64 ((i : Nat) : Int)) :: J8 (J2 ([])))) [.cells 39 (Ty.enc tProg p)] :=
  Run.roundA oc17 idxV_lv 3000 Tryd.func143 mixed (idxV_l0_R l p i) (idxV_l0_R_ok l p i) (by
    unfold idxV_l0_R
    refine g_iteD (fun h0 => ?_) (fun h0 => ?_)
    · refine g_need (by omega) ?_
      refine g_need (by omega) ?_
      refine g_callH (oddv_fun (l.getD i tVal.dflt) p) ?_
      refine g_ite (fun h1 => ?_) (fun h1 => ?_)
      · exact g_rh [0] (show ∀ k, k < 1 → ([0] : List Nat)[k]? = some k by decide) (by decide) (by simp only [renA, ren1, renC, leAV, leA1, leC]; refine ⟨trivial, ?_⟩; first | (rw [dropCons (α := EVal) (Ty.dflt tVal) (by omega)]; simp only [firstV, h0, h1, if_true]; done) | (rw [List.drop_eq_nil_of_le (by omega)]; rfl)) rfl
      · refine g_need (by rw [i64_iff]; omega) ?_
        refine g_stop (RunN.keep [0] (true :: true :: F4 (false :: true :: true :: F8 (F2 ([])))) (show ∀ k, k < 1 → ([0] : List Nat)[k]? = some k by decide) (by decide) rfl rfl ?_)
        have := idxV_l0 l p (i + 1) hl; rw [dropCons (α := EVal) (Ty.dflt tVal) (by omega)]; simp only [firstV, h0, h1, if_false, Bool.false_eq_true]; exact this
    · exact g_rh [0] (show ∀ k, k < 1 → ([0] : List Nat)[k]? = some k by decide) (by decide) (by simp only [renA, ren1, renC, leAV, leA1, leC]; refine ⟨trivial, ?_⟩; first | (rw [dropCons (α := EVal) (Ty.dflt tVal) (by omega)]; simp only [firstV, h0, if_true]; done) | (rw [List.drop_eq_nil_of_le (by omega)]; rfl)) rfl
    )
  termination_by l.length - i
  decreasing_by all_goals omega
theorem idxV_fun (l : List EVal) (p : EProg) : AFunH Tryd.prog 143 [.c (.ro tVal l), .c (.fnc (.fn0 119) (.ptr 0 0 0 0))] [.cells 39 (Ty.enc tProg p)] (.c (.int .i64 (firstV (oddV p) 0 l))) [.cells 39 (Ty.enc tProg p)] (List.range 1) :=
  AFunH.of oc17 idxV_lv 3000 Tryd.func143 mixed rfl (by decide) (Nat.le_of_ble_eq_true rfl) rfl rfl (Nat.le_refl _) _ (idxV_T_ok l p) fun hF => by
    have hl : l.length ≤ 9223372036854775807 := (hF.ro (i := 0) rfl).1
    unfold idxV_T
    refine g_stop (RunN.keep [0] (true :: true :: F4 (false :: true :: true :: F8 (F2 ([])))) (show ∀ k, k < 1 → ([0] : List Nat)[k]? = some k by decide) (by decide) rfl rfl ?_)
    exact idxV_l0 l p 0 hl

noncomputable def oc18 : Orc where
  pure := fun f args => match f, args with
    | _, _ => none
  heap := fun f args H => match f, args with
    | 143, [a0, .one (.c (.fnc (.fn0 119) (.ptr 0 0 0 0)))] => match H with
      | [b0] => (match dA (.slice tVal) a0, dB 39 tProg b0 with
        | some x0, some y0 => some (.c (.int .i64 (firstV (oddV y0) 0 x0)), [b0], List.range 1)
        | _, _ => none)
      | _ => none
    | _, _ => none
def conV_lv : LV := ⟨([]), []⟩
noncomputable def conV_T (l : List EVal) (p : EProg) : Tree :=
  .callH 143 [.c (.ro tVal l), .c (.fnc (.fn0 119) (.ptr 0 0 0 0))] [.cells 39 (Ty.enc tProg p)] (.c (.int .i64 (firstV (oddV p) 0 l))) [.cells 39 (Ty.enc tProg p)] [0] <|
  .ret (.c (.bool (decide ((0 : Int) ≤ firstV (oddV p) 0 l)))) [.cells 39 (Ty.enc tProg p)]
theorem conV_T_ok (l : List EVal) (p : EProg) : aRun Tryd.prog oc18 Tryd.f118 conV_lv 3000 [.code (bodyOf Tryd.f118)] ([.c (.ro tVal l), .c (.fnc (.fn0 119) (.ptr 0 0 0 0))] ++ List.replicate (Func.ntmps Tryd.f118 - 2) .junk) [.cells 39 (Ty.enc tProg p)] = conV_T l p := by kernel_rfl
theorem conV_fun (l : List EVal) (p : EProg) : AFunH Tryd.prog 118 [.c (.ro tVal l), .c (.fnc (.fn0 119) (.ptr 0 0 0 0))] [.cells 39 (Ty.enc tProg p)] (.c (.bool (List.any l (oddV p)))) [.cells 39 (Ty.enc tProg p)] (List.range 1) :=
  AFunH.of oc18 conV_lv 3000 Tryd.func118 mixed rfl (by decide) (Nat.le_of_ble_eq_true rfl) rfl rfl (Nat.le_refl _) _ (conV_T_ok l p) fun hF => by
    unfold conV_T
    refine g_callH (idxV_fun l p) ?_
    exact g_rh [0] (show ∀ k, k < 1 → ([0] : List Nat)[k]? = some k by decide) (by decide) (by simp only [renA, ren1, renC, leAV, leA1, leC]; exact firstV_ge) rfl

noncomputable def oc19 : Orc where
  pure := fun f args => match f, args with
    | 116, [] => some (.c (.ro .str (wordsL)))
    | 117, [a0, a1] => match dA (.slice .str) a0, dA (.slice .str) a1 with
      | some x0, some x1 => some (.c (.bool (decide (x0 = x1))))
      | _, _ => none
    | _, _ => none
  heap := fun f args H => match f, args with
    | 118, [a0, .one (.c (.fnc (.fn0 119) (.ptr 0 0 0 0)))] => match H with
      | [b0] => (match dA (.slice tVal) a0, dB 39 tProg b0 with
        | some x0, some y0 => some (.c (.bool (List.any x0 (oddV y0))), [b0], List.range 1)
        | _, _ => none)
      | _ => none
    | _, _ => none
def onceF (p : EProg) : List ByteArray → (ByteArray → Option Int) → Bool
  | [], _ => !(List.any p.2.1 (oddV p))
  | t :: r, m => if (m t).getD 0 = 1 then false else onceF p r (updM (kt := .str) m t 1)
noncomputable def tablesF (p : EProg) : Bool := if (p.2.2.length : Int) < (wordsL.length : Int) then false else if p.2.2.take wordsL.length = wordsL then onceF p p.2.2 (fun _ => none) else false
def tables_lv : LV := ⟨(false :: true :: F2 (true :: F16 (F4 (false :: true :: true :: true :: F8 (F4 (F2 (false :: []))))))), [4, 12]⟩
noncomputable def tables_T (p : EProg) : Tree :=
  .call 116 [] false (.c (.ro .str wordsL)) <|
  .ite (decide ((p.2.2.length : Int) < (wordsL.length : Int)))
  (.ret (.c (.lit false)) [.cells 39 (Ty.enc tProg p)])
  (.need ((0 : Int) ≤ (wordsL.length : Int) ∧ ((wordsL.length : Int) : Int) ≤ (p.2.2.length : Int)) <|
   .call 117 [.c (.ro .str (p.2.2.take wordsL.length)), .c (.ro .str wordsL)] false (.c (.bool (decide ((p.2.2.take wordsL.length) = wordsL)))) <|
   .ite ((!(decide ((p.2.2.take wordsL.length) = wordsL))))
   (.ret (.c (.lit false)) [.cells 39 (Ty.enc tProg p)])
   (.stop (rg (bodyOf Tryd.f80) 4) (.junk :: .c (.ptr 0 0 0 0) :: J32 (J8 (J2 ([])))) [.cells 39 (Ty.enc tProg p)]))
theorem tables_T_ok (p : EProg) : aRun Tryd.prog oc19 Tryd.f80 tables_lv 3000 [.code (bodyOf Tryd.f80)] ([.agg (tProg.enc p)] ++ List.replicate (Func.ntmps Tryd.f80 - 1) .junk) [] = tables_T p := by kernel_rfl
noncomputable def tables_r12_R (p : EProg) : Tree :=
  .callH 118 [.c (.ro tVal p.2.1), .c (.fnc (.fn0 119) (.ptr 0 0 0 0))] [.cells 39 (Ty.enc tProg p)] (.c (.bool (List.any p.2.1 (oddV p)))) [.cells 39 (Ty.enc tProg p)] [0] <|
  .ret (.c (.bool (!(List.any p.2.1 (oddV p))))) [.cells 39 (Ty.enc tProg p)]
theorem tables_r12_R_ok (p : EProg) : aRound Tryd.prog oc19 Tryd.f80 tables_lv 3000 (rg (bodyOf Tryd.f80) 12) (.junk :: .c (.ptr 0 0 0 0) :: J32 (J8 (J2 ([])))) [.cells 39 (Ty.enc tProg p)] = tables_r12_R p := by kernel_rfl
noncomputable def tables_l0_R (p : EProg) (i : Nat) (n : Nat) (m : ByteArray → Option Int) : Tree :=
  .ite (decide (((i : Nat) : Int) < (p.2.2.length : Int)))
  (.need ((0 : Int) ≤ ((i : Nat) : Int) ∧ (((i : Nat) : Int) : Int) < (p.2.2.length : Int)) <|
   .need (i < p.2.2.length) <|
   .need (Tryd.prog = Tryd.prog ∧ MapLaw Tryd.prog 9 .str) <|
   .ite (decide (((m (p.2.2.getD i (.str : Ty).dflt)).getD 0) = 1))
   (.ret (.c (.lit false)) [.cells 39 (Ty.enc tProg p), .map 9 .str tI n m])
   (.need (Tryd.prog = Tryd.prog ∧ MapLaw Tryd.prog 9 .str ∧ n < 140737488355328) <|
    .need (inR .i64 (((i : Nat) : Int) + 1)) <|
    .stop (lp (bodyOf Tryd.f80) 0) (.junk :: .c (.ptr 0 0 0 0) :: J2 (.c (.map 1) :: J16 (J4 (.junk :: .c (.ro .str p.2.2) :: .c (.int .i64 (p.2.2.length : Int)) :: .c (.int .i64 (((i : Nat) : Int) + 1)) :: J8 (J4 (J2 (.junk :: []))))))) [.cells 39 (Ty.enc tProg p), .map 9 .str tI (n + 1) (updM (kt := .str) m (p.2.2.getD i (.str : Ty).dflt) (1 : Int))]))
  (.stop (rg (bodyOf Tryd.f80) 12) (.junk :: .c (.ptr 0 0 0 0) :: J2 (.c (.map 1) :: J16 (J4 (.junk :: .c (.ro .str p.2.2) :: .c (.int .i64 (p.2.2.length : Int)) :: .c (.int .i64 ((i : Nat) : Int)) :: J8 (J4 (J2 (.junk :: []))))))) [.cells 39 (Ty.enc tProg p), .map 9 .str tI n m])
theorem tables_l0_R_ok (p : EProg) (i : Nat) (n : Nat) (m : ByteArray → Option Int) : aRound Tryd.prog oc19 Tryd.f80 tables_lv 3000 (lp (bodyOf Tryd.f80) 0) (.junk :: .c (.ptr 0 0 0 0) :: J2 (.c (.map 1) :: J16 (J4 (.junk :: .c (.ro .str p.2.2) :: .c (.int .i64 (p.2.2.length : Int)) :: .c (.int .i64 ((i : Nat) : Int)) :: J8 (J4 (J2 (.junk :: []))))))) [.cells 39 (Ty.enc tProg p), .map 9 .str tI n m] = tables_l0_R p i n m := by kernel_rfl
noncomputable def tables_r4_R (p : EProg) : Tree :=
  .need (Tryd.prog = Tryd.prog) <|
  .stop (lp (bodyOf Tryd.f80) 0) (.junk :: .c (.ptr 0 0 0 0) :: J2 (.c (.map 1) :: J16 (J4 (.junk :: .c (.ro .str p.2.2) :: .c (.int .i64 (p.2.2.length : Int)) :: .c (.int .i64 0) :: J8 (J4 (J2 (.junk :: []))))))) [.cells 39 (Ty.enc tProg p), .map 9 .str tI 0 (fun _ => none)]
theorem tables_r4_R_ok (p : EProg) : aRound Tryd.prog oc19 Tryd.f80 tables_lv 3000 (rg (bodyOf Tryd.f80) 4) (.junk :: .c (.ptr 0 0 0 0) :: J32 (J8 (J2 ([])))) [.cells 39 (Ty.enc tProg p)] = tables_r4_R p := by kernel_rfl
theorem tables_r12 (p : EProg)  : Run Tryd.prog 80 (retQ Tryd.prog (.c (.bool (!(List.any p.2.1 (oddV p)))))) (rg (bodyOf Tryd.f80) 12) (.junk :: .c (.ptr 0 0 0 0) :: J32 (J8 (J2 ([])))) [.cells 39 (Ty.enc tProg p)] :=
  Run.roundA oc19 tables_lv 3000 Tryd.func80 mixed (tables_r12_R p) (tables_r12_R_ok p) (by
    unfold tables_r12_R
    refine g_callH (conV_fun p.2.1 p) ?_
    exact g_retb (by rfl)
    )
theorem tables_l0 (p : EProg) (i : Nat) (n : Nat) (m : ByteArray → Option Int) (hl : p.2.2.length ≤ 200) (hn : n = i) : Run Tryd.prog 80 (retQ Tryd.prog (.c (.bool (onceF p (p.2.2.drop i) m)))) (lp (bodyOf Tryd.f80) 0) (.junk :: .c (.ptr 0 0 0 0) :: J2 (.c (.map 1) :: J16 (J4 (.junk :: .c (.ro .str p.2.2) :: .c (.int .i64 (p.2.2.length : Int)) :: .c (.int .i64 ((i : Nat) : Int)) :: J8 (J4 (J2 (.junk :: []))))))) [.cells 39 (Ty.enc tProg p), .map 9 .str tI n m] :=
  Run.roundA oc19 tables_lv 3000 Tryd.func80 mixed (tables_l0_R p i n m) (tables_l0_R_ok p i n m) (by
    unfold tables_l0_R
    refine g_iteD (fun h0 => ?_) (fun h0 => ?_)
    · refine g_need (by omega) ?_
      refine g_need (by omega) ?_
      refine g_need (by exact ⟨rfl, lawStr⟩) ?_
      refine g_iteD (fun h1 => ?_) (fun h1 => ?_)
      · exact g_retl (by rw [dropCons (α := ByteArray) (Ty.dflt .str) (by omega)]; simp only [onceF, h0, h1, if_true])
      · refine g_need (by exact ⟨rfl, lawStr, by omega⟩) ?_
        refine g_need (by rw [i64_iff]; omega) ?_
        refine g_stop (RunN.keep [0, 1] (false :: true :: F2 (true :: F16 (F4 (false :: true :: true :: true :: F8 (F4 (F2 (false :: []))))))) n0 (by decide) rfl rfl ?_)
        have := tables_l0 p (i + 1) (n + 1) (updM (kt := .str) m (p.2.2.getD i (.str : Ty).dflt) (1 : Int)) hl (by omega); rw [dropCons (α := ByteArray) (Ty.dflt .str) (by omega)]; simp only [onceF, h0, h1, if_false]; exact this
    · refine g_stop (RunN.keep [0] (false :: true :: F32 (F8 (F2 ([])))) n0 (by decide) rfl rfl ?_)
      have := tables_r12 p; rw [List.drop_eq_nil_of_le (by omega)]; exact this
    )
  termination_by p.2.2.length - i
  decreasing_by all_goals omega
theorem tables_r4 (p : EProg) (hl : p.2.2.length ≤ 200) : Run Tryd.prog 80 (retQ Tryd.prog (.c (.bool (onceF p p.2.2 (fun _ => none))))) (rg (bodyOf Tryd.f80) 4) (.junk :: .c (.ptr 0 0 0 0) :: J32 (J8 (J2 ([])))) [.cells 39 (Ty.enc tProg p)] :=
  Run.roundA oc19 tables_lv 3000 Tryd.func80 mixed (tables_r4_R p) (tables_r4_R_ok p) (by
    unfold tables_r4_R
    refine g_need (rfl) ?_
    refine g_stop (RunN.keep [0, 1] (false :: true :: F2 (true :: F16 (F4 (false :: true :: true :: true :: F8 (F4 (F2 (false :: []))))))) n0 (by decide) rfl rfl ?_)
    have := tables_l0 p 0 0 (fun _ => none) hl rfl; exact this
    )
theorem tables_fun (p : EProg) (hl : p.2.2.length ≤ 200) : AFun Tryd.prog 80 [.agg (tProg.enc p)] (.c (.bool (tablesF p))) :=
  AFun.of oc19 tables_lv 3000 Tryd.func80 mixed rfl (by decide) (Nat.le_of_ble_eq_true rfl) _ (tables_T_ok p) fun hF => by
    unfold tables_T
    refine g_call (words_fun) (fun h => nomatch h) ?_
    refine g_iteD (fun h0 => ?_) (fun h0 => ?_)
    · exact g_retl (by simp only [tablesF, h0, if_true, if_false])
    · refine g_need (by omega) ?_
      refine g_call (eqS_fun (p.2.2.take wordsL.length) wordsL) (fun h => nomatch h) ?_
      refine g_iteND (fun h1 => ?_) (fun h1 => ?_)
      · exact g_retl (by simp only [tablesF, h0, h1, if_true, if_false])
      · refine g_stop (RunN.keep [0] (false :: true :: F32 (F8 (F2 ([])))) n0 (by decide) rfl rfl ?_)
        have ht := tables_r4 p hl; simp only [tablesF, h0, h1, if_true, if_false]; exact ht

end Go.Proofs.YtefkifdhjabdiaaDoor
namespace Go.Proofs.YtefkifdhjabdiaaDoor
set_option linter.unusedVariables false
set_option linter.unusedSimpArgs false
set_option maxRecDepth 100000
noncomputable def oc11 : Orc where
  pure := fun f args => match f, args with
    | 83, [a0, a1] => match dA tProg a0, dA tFn a1 with
      | some x0, some x1 => some (.c (.bool (functionF (toProg x0) (toFn x1))))
      | _, _ => none
    | _, _ => none
  heap := fun _ _ _ => none
def bad_lv : LV := ⟨([]), []⟩
noncomputable def bad_T (f : EFn) (p : EProg) : Tree :=
  .call 83 [.agg (Ty.enc tProg p), .agg (Ty.enc tFn f)] false (.c (.bool (functionF (toProg p) (toFn f)))) <|
  .ret (.c (.bool (!(functionF (toProg p) (toFn f))))) [.cells 39 (Ty.enc tProg p), .cells 84 (Ty.enc tFn f)]
theorem bad_T_ok (f : EFn) (p : EProg) : aRun Tryd.prog oc11 Tryd.f82 bad_lv 3000 [.code (bodyOf Tryd.f82)] ([.agg (Ty.enc tFn f), .c (.ptr 0 0 0 0)] ++ List.replicate (Func.ntmps Tryd.f82 - 2) .junk) [.cells 39 (Ty.enc tProg p)] = bad_T f p := by kernel_rfl
theorem bad_fun (f : EFn) (p : EProg) (hf : f.2.2.2.2.length ≤ 600 ∧ f.2.1 ≤ 60) : AFunH Tryd.prog 82 [.agg (Ty.enc tFn f), .c (.ptr 0 0 0 0)] [.cells 39 (Ty.enc tProg p)] (.c (.bool ((!(functionF (toProg p) (toFn f)))))) [.cells 39 (Ty.enc tProg p)] (List.range 1) :=
  AFunH.of oc11 bad_lv 3000 Tryd.func82 mixed rfl (by decide) (Nat.le_of_ble_eq_true rfl) rfl rfl (Nat.le_refl _) _ (bad_T_ok f p) fun hF => by
    unfold bad_T
    refine g_call (function_fun p f hf.1 hf.2) (fun h => nomatch h) ?_
    exact g_rh [0] (show ∀ k, k < 1 → ([0] : List Nat)[k]? = some k by decide) (by decide) (by simp only [renA, ren1, renC, leAV, leA1, leC]; try rfl) rfl

def firstF (q : EFn → Bool) : Nat → List EFn → Int
  | _, [] => -1
  | i, f :: r => if q f = true then (i : Int) else firstF q (i + 1) r
theorem firstF_ge {q : EFn → Bool} : ∀ {l : List EFn} {i : Nat}, decide (0 ≤ firstF q i l) = l.any q
  | [], i => rfl
  | f :: r, i => by
    unfold firstF
    rw [List.any_cons]
    split
    · rename_i h; rw [h]; simp
    · rename_i h; rw [firstF_ge (l := r)]; simp only [Bool.not_eq_true] at h; rw [h]; rfl
def badF (p : EProg) (f : EFn) : Bool := !(functionF (toProg p) (toFn f))
noncomputable def oc12 : Orc where
  pure := fun f args => match f, args with
    | _, _ => none
  heap := fun f args H => match f, args with
    | 82, [a0, .one (.c (.ptr 0 0 0 0))] => match H with
      | [b0] => (match dA tFn a0, dB 39 tProg b0 with
        | some x0, some y0 => some (.c (.bool ((!(functionF (toProg y0) (toFn x0))))), [b0], List.range 1)
        | _, _ => none)
      | _ => none
    | _, _ => none
def idxB_lv : LV := ⟨(true :: true :: F4 (false :: true :: true :: F8 (F2 ([])))), []⟩
noncomputable def idxB_T (l : List EFn) (p : EProg) : Tree :=
  .stop (lp (bodyOf Tryd.f120) 0) (.c (.ro tFn l) :: .c (.fnc (.fn0 82) (.ptr 0 0 0 0)) :: J4 (.junk :: .c (.int .i64 (l.length : Int)) :: .c (.int .i64 0) :: J8 (J2 ([])))) [.cells 39 (Ty.enc tProg p)]
theorem idxB_T_ok (l : List EFn) (p : EProg) : aRun Tryd.prog oc12 Tryd.f120 idxB_lv 3000 [.code (bodyOf Tryd.f120)] ([.c (.ro tFn l), .c (.fnc (.fn0 82) (.ptr 0 0 0 0))] ++ List.replicate (Func.ntmps Tryd.f120 - 2) .junk) [.cells 39 (Ty.enc tProg p)] = idxB_T l p := by kernel_rfl
noncomputable def idxB_l0_R (l : List EFn) (p : EProg) (i : Nat) : Tree :=
  .ite (decide (((i : Nat) : Int) < (l.length : Int)))
  (.need ((0 : Int) ≤ ((i : Nat) : Int) ∧ (((i : Nat) : Int) : Int) < (l.length : Int)) <|
   .need (i < l.length) <|
   .callH 82 [.agg [.int .i64 (l.getD i tFn.dflt).1, .int .i64 (l.getD i tFn.dflt).2.1, .bool (l.getD i tFn.dflt).2.2.1, .ro tI (l.getD i tFn.dflt).2.2.2.1, .ro tOrd (l.getD i tFn.dflt).2.2.2.2], .c (.ptr 0 0 0 0)] [.cells 39 (Ty.enc tProg p)] (.c (.bool (!(functionF (toProg p) (toFn (l.getD i tFn.dflt)))))) [.cells 39 (Ty.enc tProg p)] [0] <|
   .ite ((!(functionF (toProg p) (toFn (l.getD i tFn.dflt)))))
   (.ret (.c (.int .i64 ((i : Nat) : Int))) [.cells 39 (Ty.enc tProg p)])
   (.need (inR .i64 (((i : Nat) : Int) + 1)) <|
    .stop (lp (bodyOf Tryd.f120) 0) (.c (.ro tFn l) :: .c (.fnc (.fn0 82) (.ptr 0 0 0 0)) :: J4 (.junk :: .c (.int .i64 (l.length : Int)) :: .c (.int .i64 (((i : Nat) : Int) + 1)) :: J8 (J2 ([])))) [.cells 39 (Ty.enc tProg p)]))
  (.ret (.c (.int .i64 (-1))) [.cells 39 (Ty.enc tProg p)])
theorem idxB_l0_R_ok (l : List EFn) (p : EProg) (i : Nat) : aRound Tryd.prog oc12 Tryd.f120 idxB_lv 3000 (lp (bodyOf Tryd.f120) 0) (.c (.ro tFn l) :: .c (.fnc (.fn0 82) (.ptr 0 0 0 0)) :: J4 (.junk :: .c (.int .i64 (l.length : Int)) :: .c (.int .i64 ((i : Nat) : Int)) :: J8 (J2 ([])))) [.cells 39 (Ty.enc tProg p)] = idxB_l0_R l p i := by kernel_rfl
theorem idxB_l0 (l : List EFn) (p : EProg) (i : Nat) (hl : l.length ≤ 9223372036854775807) (hs : ∀ f ∈ l, f.2.2.2.2.length ≤ 600 ∧ f.2.1 ≤ 60) : RunN 1 Tryd.prog 120 (retH 1 (.c (.int .i64 (firstF (badF p) i (l.drop i)))) [.cells 39 (Ty.enc tProg p)]) (lp (bodyOf Tryd.f120) 0) (.c (.ro tFn l) :: .c (.fnc (.fn0 82) (.ptr 0 0 0 0)) :: J4 (.junk :: .c (.int .i64 (l.length : Int)) :: .c (.int .i64 ((i : Nat) : Int)) :: J8 (J2 ([])))) [.cells 39 (Ty.enc tProg p)] :=
  Run.roundA oc12 idxB_lv 3000 Tryd.func120 mixed (idxB_l0_R l p i) (idxB_l0_R_ok l p i) (by
    unfold idxB_l0_R
    refine g_iteD (fun h0 => ?_) (fun h0 => ?_)
    · refine g_need (by omega) ?_
      refine g_need (by omega) ?_
      refine g_callH (bad_fun (l.getD i tFn.dflt) p (hs _ (getD_mem (Ty.dflt tFn) (by omega)))) ?_
      refine g_iteN (fun h1 => ?_) (fun h1 => ?_)
      · exact g_rh [0] (show ∀ k, k < 1 → ([0] : List Nat)[k]? = some k by decide) (by decide) (by simp only [renA, ren1, renC, leAV, leA1, leC]; refine ⟨trivial, ?_⟩; first | (rw [dropCons (α := EFn) (Ty.dflt tFn) (by omega)]; simp only [firstF, badF, h0, h1, if_true, Bool.not_false]; done) | (rw [List.drop_eq_nil_of_le (by omega)]; rfl)) rfl
      · refine g_need (i64_iff.2 (by omega)) ?_
        refine g_stop (RunN.keep [0] (true :: true :: F4 (false :: true :: true :: F8 (F2 ([])))) (show ∀ k, k < 1 → ([0] : List Nat)[k]? = some k by decide) (by decide) rfl rfl ?_)
        have := idxB_l0 l p (i + 1) hl hs; rw [dropCons (α := EFn) (Ty.dflt tFn) (by omega)]; simp only [firstF, badF, h0, h1, if_false, Bool.false_eq_true, Bool.not_true]; exact this
    · exact g_rh [0] (show ∀ k, k < 1 → ([0] : List Nat)[k]? = some k by decide) (by decide) (by simp only [renA, ren1, renC, leAV, leA1, leC]; refine ⟨trivial, ?_⟩; first | (rw [dropCons (α := EFn) (Ty.dflt tFn) (by omega)]; simp only [firstF, badF, h0, if_true, Bool.not_false]; done) | (rw [List.drop_eq_nil_of_le (by omega)]; rfl)) rfl
    )
  termination_by l.length - i
  decreasing_by all_goals omega
theorem idxB_fun (l : List EFn) (p : EProg) (hs : ∀ f ∈ l, f.2.2.2.2.length ≤ 600 ∧ f.2.1 ≤ 60) : AFunH Tryd.prog 120 [.c (.ro tFn l), .c (.fnc (.fn0 82) (.ptr 0 0 0 0))] [.cells 39 (Ty.enc tProg p)] (.c (.int .i64 (firstF (badF p) 0 l))) [.cells 39 (Ty.enc tProg p)] (List.range 1) :=
  AFunH.of oc12 idxB_lv 3000 Tryd.func120 mixed rfl (by decide) (Nat.le_of_ble_eq_true rfl) rfl rfl (Nat.le_refl _) _ (idxB_T_ok l p) fun hF => by
    have hl : l.length ≤ 9223372036854775807 := (hF.ro (i := 0) rfl).1
    unfold idxB_T
    refine g_stop (RunN.keep [0] (true :: true :: F4 (false :: true :: true :: F8 (F2 ([])))) (show ∀ k, k < 1 → ([0] : List Nat)[k]? = some k by decide) (by decide) rfl rfl ?_)
    exact idxB_l0 l p 0 hl hs

noncomputable def oc13 : Orc where
  pure := fun f args => match f, args with
    | _, _ => none
  heap := fun f args H => match f, args with
    | 120, [a0, .one (.c (.fnc (.fn0 82) (.ptr 0 0 0 0)))] => match H with
      | [b0] => (match dA (.slice tFn) a0, dB 39 tProg b0 with
        | some x0, some y0 => some (.c (.int .i64 (firstF (badF y0) 0 x0)), [b0], List.range 1)
        | _, _ => none)
      | _ => none
    | _, _ => none
def conB_lv : LV := ⟨([]), []⟩
noncomputable def conB_T (l : List EFn) (p : EProg) : Tree :=
  .callH 120 [.c (.ro tFn l), .c (.fnc (.fn0 82) (.ptr 0 0 0 0))] [.cells 39 (Ty.enc tProg p)] (.c (.int .i64 (firstF (badF p) 0 l))) [.cells 39 (Ty.enc tProg p)] [0] <|
  .ret (.c (.bool (decide ((0 : Int) ≤ firstF (badF p) 0 l)))) [.cells 39 (Ty.enc tProg p)]
theorem conB_T_ok (l : List EFn) (p : EProg) : aRun Tryd.prog oc13 Tryd.f81 conB_lv 3000 [.code (bodyOf Tryd.f81)] ([.c (.ro tFn l), .c (.fnc (.fn0 82) (.ptr 0 0 0 0))] ++ List.replicate (Func.ntmps Tryd.f81 - 2) .junk) [.cells 39 (Ty.enc tProg p)] = conB_T l p := by kernel_rfl
theorem conB_fun (l : List EFn) (p : EProg) (hs : ∀ f ∈ l, f.2.2.2.2.length ≤ 600 ∧ f.2.1 ≤ 60) : AFunH Tryd.prog 81 [.c (.ro tFn l), .c (.fnc (.fn0 82) (.ptr 0 0 0 0))] [.cells 39 (Ty.enc tProg p)] (.c (.bool (List.any l (badF p)))) [.cells 39 (Ty.enc tProg p)] (List.range 1) :=
  AFunH.of oc13 conB_lv 3000 Tryd.func81 mixed rfl (by decide) (Nat.le_of_ble_eq_true rfl) rfl rfl (Nat.le_refl _) _ (conB_T_ok l p) fun hF => by
    unfold conB_T
    refine g_callH (idxB_fun l p hs) ?_
    exact g_rh [0] (show ∀ k, k < 1 → ([0] : List Nat)[k]? = some k by decide) (by decide) (by simp only [renA, ren1, renC, leAV, leA1, leC]; exact firstF_ge) rfl

theorem large_texts {p : EProg} (h : largeF (toProg p) = false) : p.2.2.length ≤ 200 := by
  unfold largeF at h
  simp only [Bool.or_eq_false_iff] at h
  have := of_decide_eq_false h.1.1.2
  simp [toProg] at this
  exact this
theorem large_fns {p : EProg} (h : largeF (toProg p) = false) : ∀ f ∈ p.1, f.2.2.2.2.length ≤ 600 ∧ f.2.1 ≤ 60 := by
  intro f hf
  unfold largeF at h
  simp only [Bool.or_eq_false_iff] at h
  have h1 := List.any_eq_false.1 h.2 (toFn f) (List.mem_map.2 ⟨f, hf, rfl⟩)
  simp [longFn, toFn] at h1
  exact ⟨h1.1, by have := of_decide_eq_false h1.2; omega⟩
noncomputable def oc14 : Orc where
  pure := fun f args => match f, args with
    | 79, [a0] => match dA tProg a0 with
      | some x0 => some (.c (.bool (largeF (toProg x0))))
      | _ => none
    | 80, [a0] => match dA tProg a0 with
      | some x0 => some (.c (.bool (tablesF x0)))
      | _ => none
    | _, _ => none
  heap := fun f args H => match f, args with
    | 81, [a0, .one (.c (.fnc (.fn0 82) (.ptr 0 0 0 0)))] => match H with
      | [b0] => (match dA (.slice tFn) a0, dB 39 tProg b0 with
        | some x0, some y0 => some (.c (.bool (List.any x0 (badF y0))), [b0], List.range 1)
        | _, _ => none)
      | _ => none
    | _, _ => none
noncomputable def okHead (p : EProg) : Bool := if tablesF p = true then (if p.1.length = 0 then false else if (p.1.getD 0 tFn.dflt).1 = 0 then (if 0 < (p.1.getD 0 tFn.dflt).2.2.2.1.length then false else if (p.1.getD 0 tFn.dflt).2.2.1 = true then false else true) else false) else false
noncomputable def codeF (p : EProg) : Int := if largeF (toProg p) = true then 2 else if okHead p = true then (if p.1.any (badF p) = true then 3 else 0) else 3
def codeCheck_lv : LV := ⟨(false :: true :: F32 (F8 ([]))), [5]⟩
noncomputable def codeCheck_T (p : EProg) : Tree :=
  .call 79 [.agg (Ty.enc tProg p)] false (.c (.bool (largeF (toProg p)))) <|
  .ite (largeF (toProg p))
  (.ret (.c (.int .i64 2)) [.cells 39 (Ty.enc tProg p)])
  (.call 80 [.agg (Ty.enc tProg p)] false (.c (.bool (tablesF p))) <|
   .ite ((!(tablesF p)))
   (.ret (.c (.int .i64 3)) [.cells 39 (Ty.enc tProg p)])
   (.ite (decide ((p.1.length : Int) = 0))
    (.ret (.c (.int .i64 3)) [.cells 39 (Ty.enc tProg p)])
    (.need ((0 : Int) ≤ 0 ∧ (0 : Int) < (p.1.length : Int)) <|
     .need (0 < p.1.length) <|
     .ite ((!(decide ((p.1.getD 0 tFn.dflt).1 = 0))))
     (.ret (.c (.int .i64 3)) [.cells 39 (Ty.enc tProg p)])
     (.need ((0 : Int) ≤ 0 ∧ (0 : Int) < (p.1.length : Int)) <|
      .need (0 < p.1.length) <|
      .ite (decide ((0 : Int) < ((p.1.getD 0 tFn.dflt).2.2.2.1.length : Int)))
      (.ret (.c (.int .i64 3)) [.cells 39 (Ty.enc tProg p)])
      (.need ((0 : Int) ≤ 0 ∧ (0 : Int) < (p.1.length : Int)) <|
       .need (0 < p.1.length) <|
       .ite ((p.1.getD 0 tFn.dflt).2.2.1)
       (.ret (.c (.int .i64 3)) [.cells 39 (Ty.enc tProg p)])
       (.stop (rg (bodyOf Tryd.f42) 5) (.junk :: .c (.ptr 0 0 0 0) :: J32 (J8 ([]))) [.cells 39 (Ty.enc tProg p)]))))))
theorem codeCheck_T_ok (p : EProg) : aRun Tryd.prog oc14 Tryd.f42 codeCheck_lv 3000 [.code (bodyOf Tryd.f42)] ([.agg (tProg.enc p)] ++ List.replicate (Func.ntmps Tryd.f42 - 1) .junk) [] = codeCheck_T p := by kernel_rfl
noncomputable def codeCheck_r5_R (p : EProg) : Tree :=
  .callH 81 [.c (.ro tFn p.1), .c (.fnc (.fn0 82) (.ptr 0 0 0 0))] [.cells 39 (Ty.enc tProg p)] (.c (.bool (List.any p.1 (badF p)))) [.cells 39 (Ty.enc tProg p)] [0] <|
  .ite (List.any p.1 (badF p))
  (.ret (.c (.int .i64 3)) [.cells 39 (Ty.enc tProg p)])
  (.ret (.c (.int .i64 0)) [.cells 39 (Ty.enc tProg p)])
theorem codeCheck_r5_R_ok (p : EProg) : aRound Tryd.prog oc14 Tryd.f42 codeCheck_lv 3000 (rg (bodyOf Tryd.f42) 5) (.junk :: .c (.ptr 0 0 0 0) :: J32 (J8 ([]))) [.cells 39 (Ty.enc tProg p)] = codeCheck_r5_R p := by kernel_rfl
theorem codeCheck_r5 (p : EProg) (hl : largeF (toProg p) = false) : Run Tryd.prog 42 (retQ Tryd.prog (.c (.int .i64 (if p.1.any (badF p) = true then 3 else 0)))) (rg (bodyOf Tryd.f42) 5) (.junk :: .c (.ptr 0 0 0 0) :: J32 (J8 ([]))) [.cells 39 (Ty.enc tProg p)] :=
  Run.roundA oc14 codeCheck_lv 3000 Tryd.func42 mixed (codeCheck_r5_R p) (codeCheck_r5_R_ok p) (by
    unfold codeCheck_r5_R
    refine g_callH (conB_fun p.1 p (large_fns (by assumption))) ?_
    refine g_ite (fun h0 => ?_) (fun h0 => ?_)
    · exact g_reti (by simp only [h0, if_true, if_false, Bool.false_eq_true])
    · exact g_reti (by simp only [h0, if_true, if_false, Bool.false_eq_true])
    )
theorem codeCheck_fun (p : EProg) : AFun Tryd.prog 42 [.agg (tProg.enc p)] (.c (.int .i64 (codeF p))) :=
  AFun.of oc14 codeCheck_lv 3000 Tryd.func42 mixed rfl (by decide) (Nat.le_of_ble_eq_true rfl) _ (codeCheck_T_ok p) fun hF => by
    unfold codeCheck_T
    refine g_call (large_fun p) (fun h => nomatch h) ?_
    refine g_ite (fun h0 => ?_) (fun h0 => ?_)
    · exact g_reti (by simp only [codeF, okHead, h0, if_true, if_false, Bool.false_eq_true])
    · refine g_call (tables_fun p (large_texts (by assumption))) (fun h => nomatch h) ?_
      refine g_iteN (fun h1 => ?_) (fun h1 => ?_)
      · exact g_reti (by simp only [codeF, okHead, h0, h1, if_true, if_false, Bool.false_eq_true])
      · refine g_iteD (fun h2 => ?_) (fun h2 => ?_)
        · exact g_reti (by simp_all [codeF, okHead])
        · refine g_need (by omega) ?_
          refine g_need (by omega) ?_
          refine g_iteND (fun h3 => ?_) (fun h3 => ?_)
          · exact g_reti (by simp_all [codeF, okHead])
          · refine g_need (by omega) ?_
            refine g_need (by omega) ?_
            refine g_iteD (fun h4 => ?_) (fun h4 => ?_)
            · exact g_reti (by simp_all [codeF, okHead])
            · refine g_need (by omega) ?_
              refine g_need (by omega) ?_
              refine g_ite (fun h5 => ?_) (fun h5 => ?_)
              · exact g_reti (by simp_all [codeF, okHead])
              · refine g_stop (RunN.keep [0] (false :: true :: F32 (F8 ([]))) n0 (by decide) rfl rfl ?_)
                have ht := codeCheck_r5 p h0; have e : codeF p = (if p.1.any (badF p) = true then 3 else 0) := (by unfold codeF; rw [if_neg (by simp [h0]), if_pos (by first | (simp only [okHead, h0, h1, h2, h3, h4, h5, if_true, if_false, Bool.false_eq_true]; done) | (simp_all [okHead]; done))]); rw [e]; exact ht

end Go.Proofs.YtefkifdhjabdiaaDoor
namespace Go.Proofs.YtefkifdhjabdiaaDoor
set_option linter.unusedVariables false
set_option linter.unusedSimpArgs false
set_option maxRecDepth 100000
noncomputable def oc8 : Orc where
  pure := fun f args => match f, args with
    | 42, [a0] => match dA tProg a0 with
      | some x0 => some (.c (.int .i64 (codeF x0)))
      | _ => none
    | 43, [a0] => match dA tI a0 with
      | some x0 => some (.tup [.agg (Ty.enc tForm ((ofF x0).1)), .c (.bool ((ofF x0).2))])
      | _ => none
    | 44, [a0, a1, a2, a3] => match dA tChk a0, dA tForm a1, dA tIns a2, dA tI a3 with
      | some x0, some x1, some x2, some x3 => some (.c (.bool (formedF x0 x1 x2 x3)))
      | _, _, _, _ => none
    | 45, [a0] => match dA tExit a0 with
      | some x0 => some (.c (.bool (bareF x0)))
      | _ => none
    | 46, [a0, a1, a2] => match dA tChk a0, dA tExit a1, dA tI a2 with
      | some x0, some x1, some x2 => some (.c (.bool (rightXF x0 x1 x2)))
      | _, _, _ => none
    | _, _ => none
  heap := fun _ _ _ => none
def insF (c : EChk) : Nat → List EIns → Int
  | _, [] => 0
  | i, x :: r => if (ofF x.1).2 = false then 7 else if formedF c (ofF x.1).1 x i = false then 3 else insF c (i + 1) r
def exitsF (c : EChk) (n : Int) : List EExit → Int
  | [] => 0
  | x :: r => if rightXF c x n = false then 3 else exitsF c n r
def turnOk (c : EChk) (t : ETrace) : Bool := (if t.2.2.1 = 0 then bareF t.2.2.2.2.2.1 else true) && (if 0 < t.2.2.1 then (decide (t.2.2.2.2.2.1.1 = t.2.1) && rightXF c t.2.2.2.2.2.1 t.2.2.1) else true)
def backOk (c : EChk) (t : ETrace) : Bool := decide (t.2.2.2.2.2.2.1 = t.2.1) && rightXF c t.2.2.2.2.2.2 (t.2.2.2.1.length : Int)
def headOk (p : EProg) (t : ETrace) : Bool := if t.1 < 0 then false else if (p.1.length : Int) ≤ t.1 then false else if t.2.1 < 0 then false else if ((p.1.getD (Int.toNat t.1) tFn.dflt).2.2.2.2.length : Int) ≤ t.2.1 then false else if t.2.2.1 < 0 then false else if (t.2.2.2.1.length : Int) < t.2.2.1 then false else true
def end3F (c : EChk) (t : ETrace) : Int := exitsF c (t.2.2.2.1.length : Int) t.2.2.2.2.1
def end2F (c : EChk) (t : ETrace) : Int := if backOk c t = true then end3F c t else 3
def end1F (c : EChk) (t : ETrace) : Int := if turnOk c t = true then end2F c t else 3
def thenF (a b : Int) : Int := if a = 0 then b else a
def bodyF (c : EChk) (t : ETrace) : Int := thenF (insF c 0 t.2.2.2.1) (end1F c t)
def sizeOk (t : ETrace) : Bool := if 300 < (t.2.2.2.1.length : Int) then false else if 200 < (t.2.2.2.2.1.length : Int) then false else true
def check4F (p : EProg) (t : ETrace) : Int := if sizeOk t = true then (if headOk p t = true then bodyF (p.1.getD (Int.toNat t.1) tFn.dflt, t) t else 3) else 2
noncomputable def checkF (p : EProg) (t : ETrace) : Int := if codeF p = 0 then check4F p t else codeF p
def check_lv : LV := ⟨(F2 (true :: true :: F2 (true :: F32 (F32 (F8 (F2 (true :: true :: true :: F32 (F32 (F2 (false :: true :: true :: true :: F8 (F2 (false :: [])))))))))))), [4, 8, 18, 21, 23]⟩
noncomputable def check_T (p : EProg) (t : ETrace) : Tree :=
  .call 42 [.agg (Ty.enc tProg p)] false (.c (.int .i64 (codeF p))) <|
  .ite ((!(decide (codeF p = 0))))
  (.ret (.c (.int .i64 (codeF p))) [.cells 39 (Ty.enc tProg p), .cells 29 (Ty.enc tTrace t)])
  (.stop (rg (bodyOf Tryd.f17) 4) (J2 (.c (.ptr 0 0 0 0) :: .c (.ptr 1 0 0 0) :: J32 (J32 (J32 (J32 (J32 (.junk :: []))))))) [.cells 39 (Ty.enc tProg p), .cells 29 (Ty.enc tTrace t)])
theorem check_T_ok (p : EProg) (t : ETrace) : aRun Tryd.prog oc8 Tryd.f17 check_lv 3000 [.code (bodyOf Tryd.f17)] ([.agg (tProg.enc p), .agg (tTrace.enc t)] ++ List.replicate (Func.ntmps Tryd.f17 - 2) .junk) [] = check_T p t := by kernel_rfl
noncomputable def check_l1_R (p : EProg) (t : ETrace) (i : Nat) : Tree :=
  .ite (decide (((i : Nat) : Int) < (t.2.2.2.2.1.length : Int)))
  (.need ((0 : Int) ≤ ((i : Nat) : Int) ∧ (((i : Nat) : Int) : Int) < (t.2.2.2.2.1.length : Int)) <|
   .need (i < t.2.2.2.2.1.length) <|
   .call 46 [.agg (Ty.enc tChk (p.1.getD (Int.toNat t.1) tFn.dflt, t)), .agg [.int .i64 (t.2.2.2.2.1.getD i tExit.dflt).1, .int .i64 (t.2.2.2.2.1.getD i tExit.dflt).2.1, .ro tVal (t.2.2.2.2.1.getD i tExit.dflt).2.2.1, .ro tMake (t.2.2.2.2.1.getD i tExit.dflt).2.2.2], .c (.int .i64 (t.2.2.2.1.length : Int))] false (.c (.bool (rightXF ((p.1.getD (Int.toNat t.1) tFn.dflt), t) (t.2.2.2.2.1.getD i tExit.dflt) (t.2.2.2.1.length : Int)))) <|
   .ite ((!(rightXF ((p.1.getD (Int.toNat t.1) tFn.dflt), t) (t.2.2.2.2.1.getD i tExit.dflt) (t.2.2.2.1.length : Int))))
   (.ret (.c (.int .i64 3)) [.cells 29 (Ty.enc tTrace t), .cells 86 (Ty.enc tChk (p.1.getD (Int.toNat t.1) tFn.dflt, t)), .cells 27 [.int .i64 (t.2.2.2.2.1.getD i tExit.dflt).1, .int .i64 (t.2.2.2.2.1.getD i tExit.dflt).2.1, .ro tVal (t.2.2.2.2.1.getD i tExit.dflt).2.2.1, .ro tMake (t.2.2.2.2.1.getD i tExit.dflt).2.2.2]])
   (.need (inR .i64 (((i : Nat) : Int) + 1)) <|
    .stop (lp (bodyOf Tryd.f17) 1) (J2 (.junk :: .c (.ptr 0 0 0 0) :: J2 (.c (.ptr 1 0 0 0) :: J32 (J32 (J32 (J32 (J16 (.c (.ro tExit t.2.2.2.2.1) :: .c (.int .i64 (t.2.2.2.2.1.length : Int)) :: .c (.int .i64 (((i : Nat) : Int) + 1)) :: J8 (J2 (.junk :: [])))))))))) [.cells 29 (Ty.enc tTrace t), .cells 86 (Ty.enc tChk (p.1.getD (Int.toNat t.1) tFn.dflt, t)), .cells 27 [.int .i64 (t.2.2.2.2.1.getD i tExit.dflt).1, .int .i64 (t.2.2.2.2.1.getD i tExit.dflt).2.1, .ro tVal (t.2.2.2.2.1.getD i tExit.dflt).2.2.1, .ro tMake (t.2.2.2.2.1.getD i tExit.dflt).2.2.2]]))
  (.ret (.c (.int .i64 0)) [.cells 29 (Ty.enc tTrace t), .cells 86 (Ty.enc tChk (p.1.getD (Int.toNat t.1) tFn.dflt, t))])
theorem check_l1_R_ok (p : EProg) (t : ETrace) (i : Nat) : aRound Tryd.prog oc8 Tryd.f17 check_lv 3000 (lp (bodyOf Tryd.f17) 1) (J2 (.junk :: .c (.ptr 0 0 0 0) :: J2 (.c (.ptr 1 0 0 0) :: J32 (J32 (J32 (J32 (J16 (.c (.ro tExit t.2.2.2.2.1) :: .c (.int .i64 (t.2.2.2.2.1.length : Int)) :: .c (.int .i64 ((i : Nat) : Int)) :: J8 (J2 (.junk :: [])))))))))) [.cells 29 (Ty.enc tTrace t), .cells 86 (Ty.enc tChk (p.1.getD (Int.toNat t.1) tFn.dflt, t))] = check_l1_R p t i := by kernel_rfl
noncomputable def check_r23_R (p : EProg) (t : ETrace) : Tree :=
  .stop (lp (bodyOf Tryd.f17) 1) (J2 (.junk :: .c (.ptr 0 0 0 0) :: J2 (.c (.ptr 1 0 0 0) :: J32 (J32 (J32 (J32 (J16 (.c (.ro tExit t.2.2.2.2.1) :: .c (.int .i64 (t.2.2.2.2.1.length : Int)) :: .c (.int .i64 0) :: J8 (J2 (.junk :: [])))))))))) [.cells 29 (Ty.enc tTrace t), .cells 86 (Ty.enc tChk (p.1.getD (Int.toNat t.1) tFn.dflt, t))]
abbrev bCe4 : List AV := (J2 (.junk :: .c (.ptr 0 0 0 0) :: J2 (.c (.ptr 1 0 0 0) :: J32 (J32 (J32 (J32 (J16 (J8 (J4 (J2 ([])))))))))))
theorem check_r23_R_ok (p : EProg) (t : ETrace) : aRound Tryd.prog oc8 Tryd.f17 check_lv 3000 (rg (bodyOf Tryd.f17) 23) bCe4 [.cells 29 (Ty.enc tTrace t), .cells 86 (Ty.enc tChk (p.1.getD (Int.toNat t.1) tFn.dflt, t))] = check_r23_R p t := by kernel_rfl
noncomputable def check_r21_R (p : EProg) (t : ETrace) : Tree :=
  .ite ((!(decide (t.2.2.2.2.2.2.1 = t.2.1))))
  (.ret (.c (.int .i64 3)) [.cells 29 (Ty.enc tTrace t), .cells 86 (Ty.enc tChk (p.1.getD (Int.toNat t.1) tFn.dflt, t))])
  (.call 46 [.agg (Ty.enc tChk (p.1.getD (Int.toNat t.1) tFn.dflt, t)), .agg [.int .i64 t.2.2.2.2.2.2.1, .int .i64 t.2.2.2.2.2.2.2.1, .ro tVal t.2.2.2.2.2.2.2.2.1, .ro tMake t.2.2.2.2.2.2.2.2.2], .c (.int .i64 (t.2.2.2.1.length : Int))] false (.c (.bool (rightXF ((p.1.getD (Int.toNat t.1) tFn.dflt), t) t.2.2.2.2.2.2 (t.2.2.2.1.length : Int)))) <|
   .ite ((!(rightXF ((p.1.getD (Int.toNat t.1) tFn.dflt), t) t.2.2.2.2.2.2 (t.2.2.2.1.length : Int))))
   (.ret (.c (.int .i64 3)) [.cells 29 (Ty.enc tTrace t), .cells 86 (Ty.enc tChk (p.1.getD (Int.toNat t.1) tFn.dflt, t))])
   (.stop (rg (bodyOf Tryd.f17) 23) bCe4 [.cells 29 (Ty.enc tTrace t), .cells 86 (Ty.enc tChk (p.1.getD (Int.toNat t.1) tFn.dflt, t))]))
theorem check_r21_R_ok (p : EProg) (t : ETrace) : aRound Tryd.prog oc8 Tryd.f17 check_lv 3000 (rg (bodyOf Tryd.f17) 21) bCe4 [.cells 29 (Ty.enc tTrace t), .cells 86 (Ty.enc tChk (p.1.getD (Int.toNat t.1) tFn.dflt, t))] = check_r21_R p t := by kernel_rfl
noncomputable def check_r18_R (p : EProg) (t : ETrace) : Tree :=
  .ite (decide (t.2.2.1 = 0))
  (.call 45 [.agg [.int .i64 t.2.2.2.2.2.1.1, .int .i64 t.2.2.2.2.2.1.2.1, .ro tVal t.2.2.2.2.2.1.2.2.1, .ro tMake t.2.2.2.2.2.1.2.2.2]] false (.c (.bool (bareF t.2.2.2.2.2.1))) <|
   .ite ((!(bareF t.2.2.2.2.2.1)))
   (.ite ((!(bareF t.2.2.2.2.2.1)))
    (.ret (.c (.int .i64 3)) [.cells 29 (Ty.enc tTrace t), .cells 86 (Ty.enc tChk (p.1.getD (Int.toNat t.1) tFn.dflt, t))])
    (.stop (rg (bodyOf Tryd.f17) 21) bCe4 [.cells 29 (Ty.enc tTrace t), .cells 86 (Ty.enc tChk (p.1.getD (Int.toNat t.1) tFn.dflt, t))]))
   (.ite (decide ((0 : Int) < t.2.2.1))
    (.ite ((!(decide (t.2.2.2.2.2.1.1 = t.2.1))))
     (.ret (.c (.int .i64 3)) [.cells 29 (Ty.enc tTrace t), .cells 86 (Ty.enc tChk (p.1.getD (Int.toNat t.1) tFn.dflt, t))])
     (.call 46 [.agg (Ty.enc tChk (p.1.getD (Int.toNat t.1) tFn.dflt, t)), .agg [.int .i64 t.2.2.2.2.2.1.1, .int .i64 t.2.2.2.2.2.1.2.1, .ro tVal t.2.2.2.2.2.1.2.2.1, .ro tMake t.2.2.2.2.2.1.2.2.2], .c (.int .i64 t.2.2.1)] false (.c (.bool (rightXF ((p.1.getD (Int.toNat t.1) tFn.dflt), t) t.2.2.2.2.2.1 t.2.2.1))) <|
      .ite ((!(rightXF ((p.1.getD (Int.toNat t.1) tFn.dflt), t) t.2.2.2.2.2.1 t.2.2.1)))
      (.ret (.c (.int .i64 3)) [.cells 29 (Ty.enc tTrace t), .cells 86 (Ty.enc tChk (p.1.getD (Int.toNat t.1) tFn.dflt, t))])
      (.stop (rg (bodyOf Tryd.f17) 21) bCe4 [.cells 29 (Ty.enc tTrace t), .cells 86 (Ty.enc tChk (p.1.getD (Int.toNat t.1) tFn.dflt, t))])))
    (.stop (rg (bodyOf Tryd.f17) 21) bCe4 [.cells 29 (Ty.enc tTrace t), .cells 86 (Ty.enc tChk (p.1.getD (Int.toNat t.1) tFn.dflt, t))])))
  (.ite (decide ((0 : Int) < t.2.2.1))
   (.ite ((!(decide (t.2.2.2.2.2.1.1 = t.2.1))))
    (.ret (.c (.int .i64 3)) [.cells 29 (Ty.enc tTrace t), .cells 86 (Ty.enc tChk (p.1.getD (Int.toNat t.1) tFn.dflt, t))])
    (.call 46 [.agg (Ty.enc tChk (p.1.getD (Int.toNat t.1) tFn.dflt, t)), .agg [.int .i64 t.2.2.2.2.2.1.1, .int .i64 t.2.2.2.2.2.1.2.1, .ro tVal t.2.2.2.2.2.1.2.2.1, .ro tMake t.2.2.2.2.2.1.2.2.2], .c (.int .i64 t.2.2.1)] false (.c (.bool (rightXF ((p.1.getD (Int.toNat t.1) tFn.dflt), t) t.2.2.2.2.2.1 t.2.2.1))) <|
     .ite ((!(rightXF ((p.1.getD (Int.toNat t.1) tFn.dflt), t) t.2.2.2.2.2.1 t.2.2.1)))
     (.ret (.c (.int .i64 3)) [.cells 29 (Ty.enc tTrace t), .cells 86 (Ty.enc tChk (p.1.getD (Int.toNat t.1) tFn.dflt, t))])
     (.stop (rg (bodyOf Tryd.f17) 21) bCe4 [.cells 29 (Ty.enc tTrace t), .cells 86 (Ty.enc tChk (p.1.getD (Int.toNat t.1) tFn.dflt, t))])))
   (.stop (rg (bodyOf Tryd.f17) 21) bCe4 [.cells 29 (Ty.enc tTrace t), .cells 86 (Ty.enc tChk (p.1.getD (Int.toNat t.1) tFn.dflt, t))]))
theorem check_r18_R_ok (p : EProg) (t : ETrace) : aRound Tryd.prog oc8 Tryd.f17 check_lv 3000 (rg (bodyOf Tryd.f17) 18) bCe4 [.cells 29 (Ty.enc tTrace t), .cells 86 (Ty.enc tChk (p.1.getD (Int.toNat t.1) tFn.dflt, t))] = check_r18_R p t := by kernel_rfl
abbrev bCe0 (t : ETrace) (i : Nat) : AB := .cells 46 [.int .i64 (t.2.2.2.1.getD i tIns.dflt).1, .int .i64 (t.2.2.2.1.getD i tIns.dflt).2.1, .int .i64 (t.2.2.2.1.getD i tIns.dflt).2.2.1, .int .i64 (t.2.2.2.1.getD i tIns.dflt).2.2.2.1, .int .i64 (t.2.2.2.1.getD i tIns.dflt).2.2.2.2.1, .int .i64 (t.2.2.2.1.getD i tIns.dflt).2.2.2.2.2.1, .int .i64 (t.2.2.2.1.getD i tIns.dflt).2.2.2.2.2.2.1, .int .i64 (t.2.2.2.1.getD i tIns.dflt).2.2.2.2.2.2.2]
abbrev bCe1 (t : ETrace) (i : Nat) : AB := .cells 88 [.int .i64 (ofF (t.2.2.2.1.getD i tIns.dflt).1).1.1, .int .i64 (ofF (t.2.2.2.1.getD i tIns.dflt).1).1.2.1, .int .i64 (ofF (t.2.2.2.1.getD i tIns.dflt).1).1.2.2.1, .bool (ofF (t.2.2.2.1.getD i tIns.dflt).1).1.2.2.2.1, .bool (ofF (t.2.2.2.1.getD i tIns.dflt).1).1.2.2.2.2.1, .int .i64 (ofF (t.2.2.2.1.getD i tIns.dflt).1).1.2.2.2.2.2]
abbrev bCe2 (t : ETrace) (i : Nat) : List AV := (J2 (.junk :: .c (.ptr 0 0 0 0) :: J2 (.c (.ptr 1 0 0 0) :: J32 (J32 (J8 (J2 (.c (.ro tIns t.2.2.2.1) :: .c (.int .i64 (t.2.2.2.1.length : Int)) :: .c (.int .i64 ((i : Nat) : Int)) :: J32 (J32 (J16 (.junk :: []))))))))))
noncomputable def check_l0_R (p : EProg) (t : ETrace) (i : Nat) : Tree :=
  .ite (decide (((i : Nat) : Int) < (t.2.2.2.1.length : Int)))
  (.need ((0 : Int) ≤ ((i : Nat) : Int) ∧ (((i : Nat) : Int) : Int) < (t.2.2.2.1.length : Int)) <|
   .need (i < t.2.2.2.1.length) <|
   .call 43 [.c (.int .i64 (t.2.2.2.1.getD i tIns.dflt).1)] false (.tup [.agg [.int .i64 (ofF (t.2.2.2.1.getD i tIns.dflt).1).1.1, .int .i64 (ofF (t.2.2.2.1.getD i tIns.dflt).1).1.2.1, .int .i64 (ofF (t.2.2.2.1.getD i tIns.dflt).1).1.2.2.1, .bool (ofF (t.2.2.2.1.getD i tIns.dflt).1).1.2.2.2.1, .bool (ofF (t.2.2.2.1.getD i tIns.dflt).1).1.2.2.2.2.1, .int .i64 (ofF (t.2.2.2.1.getD i tIns.dflt).1).1.2.2.2.2.2], .c (.bool (ofF (t.2.2.2.1.getD i tIns.dflt).1).2)]) <|
   .ite ((!(ofF (t.2.2.2.1.getD i tIns.dflt).1).2))
   (.ret (.c (.int .i64 7)) [.cells 29 (Ty.enc tTrace t), .cells 86 (Ty.enc tChk (p.1.getD (Int.toNat t.1) tFn.dflt, t)), (bCe0 t i), (bCe1 t i)])
   (.call 44 [.agg (Ty.enc tChk (p.1.getD (Int.toNat t.1) tFn.dflt, t)), .agg [.int .i64 (ofF (t.2.2.2.1.getD i tIns.dflt).1).1.1, .int .i64 (ofF (t.2.2.2.1.getD i tIns.dflt).1).1.2.1, .int .i64 (ofF (t.2.2.2.1.getD i tIns.dflt).1).1.2.2.1, .bool (ofF (t.2.2.2.1.getD i tIns.dflt).1).1.2.2.2.1, .bool (ofF (t.2.2.2.1.getD i tIns.dflt).1).1.2.2.2.2.1, .int .i64 (ofF (t.2.2.2.1.getD i tIns.dflt).1).1.2.2.2.2.2], .agg [.int .i64 (t.2.2.2.1.getD i tIns.dflt).1, .int .i64 (t.2.2.2.1.getD i tIns.dflt).2.1, .int .i64 (t.2.2.2.1.getD i tIns.dflt).2.2.1, .int .i64 (t.2.2.2.1.getD i tIns.dflt).2.2.2.1, .int .i64 (t.2.2.2.1.getD i tIns.dflt).2.2.2.2.1, .int .i64 (t.2.2.2.1.getD i tIns.dflt).2.2.2.2.2.1, .int .i64 (t.2.2.2.1.getD i tIns.dflt).2.2.2.2.2.2.1, .int .i64 (t.2.2.2.1.getD i tIns.dflt).2.2.2.2.2.2.2], .c (.int .i64 ((i : Nat) : Int))] false (.c (.bool (formedF ((p.1.getD (Int.toNat t.1) tFn.dflt), t) (ofF (t.2.2.2.1.getD i tIns.dflt).1).1 (t.2.2.2.1.getD i tIns.dflt) ((i : Nat) : Int)))) <|
    .ite ((!(formedF ((p.1.getD (Int.toNat t.1) tFn.dflt), t) (ofF (t.2.2.2.1.getD i tIns.dflt).1).1 (t.2.2.2.1.getD i tIns.dflt) ((i : Nat) : Int))))
    (.ret (.c (.int .i64 3)) [.cells 29 (Ty.enc tTrace t), .cells 86 (Ty.enc tChk (p.1.getD (Int.toNat t.1) tFn.dflt, t)), (bCe0 t i), (bCe1 t i)])
    (.need (inR .i64 (((i : Nat) : Int) + 1)) <|
     .stop (lp (bodyOf Tryd.f17) 0) (J2 (.junk :: .c (.ptr 0 0 0 0) :: J2 (.c (.ptr 1 0 0 0) :: J32 (J32 (J8 (J2 (.c (.ro tIns t.2.2.2.1) :: .c (.int .i64 (t.2.2.2.1.length : Int)) :: .c (.int .i64 (((i : Nat) : Int) + 1)) :: J32 (J32 (J16 (.junk :: [])))))))))) [.cells 29 (Ty.enc tTrace t), .cells 86 (Ty.enc tChk (p.1.getD (Int.toNat t.1) tFn.dflt, t)), (bCe0 t i), (bCe1 t i)])))
  (.stop (rg (bodyOf Tryd.f17) 18) (bCe2 t i) [.cells 29 (Ty.enc tTrace t), .cells 86 (Ty.enc tChk (p.1.getD (Int.toNat t.1) tFn.dflt, t))])
theorem check_l0_R_ok (p : EProg) (t : ETrace) (i : Nat) : aRound Tryd.prog oc8 Tryd.f17 check_lv 3000 (lp (bodyOf Tryd.f17) 0) (bCe2 t i) [.cells 29 (Ty.enc tTrace t), .cells 86 (Ty.enc tChk (p.1.getD (Int.toNat t.1) tFn.dflt, t))] = check_l0_R p t i := by kernel_rfl
noncomputable def check_r8_R (p : EProg) (t : ETrace) : Tree :=
  .need ((0 : Int) ≤ t.1 ∧ (t.1 : Int) < (p.1.length : Int)) <|
  .need ((Int.toNat t.1) < p.1.length) <|
  .stop (lp (bodyOf Tryd.f17) 0) (J2 (.c (.ptr 0 0 0 0) :: .c (.ptr 1 0 0 0) :: J2 (.c (.ptr 2 0 0 0) :: J32 (J32 (J8 (J2 (.c (.ro tIns t.2.2.2.1) :: .c (.int .i64 (t.2.2.2.1.length : Int)) :: .c (.int .i64 0) :: J32 (J32 (J16 (.junk :: [])))))))))) [.cells 39 (Ty.enc tProg p), .cells 29 (Ty.enc tTrace t), .cells 86 (Ty.enc tChk (p.1.getD (Int.toNat t.1) tFn.dflt, t))]
theorem check_r8_R_ok (p : EProg) (t : ETrace) : aRound Tryd.prog oc8 Tryd.f17 check_lv 3000 (rg (bodyOf Tryd.f17) 8) (J2 (.c (.ptr 0 0 0 0) :: .c (.ptr 1 0 0 0) :: J32 (J32 (J32 (J32 (J32 (.junk :: []))))))) [.cells 39 (Ty.enc tProg p), .cells 29 (Ty.enc tTrace t)] = check_r8_R p t := by kernel_rfl
noncomputable def check_r4_R (p : EProg) (t : ETrace) : Tree :=
  .ite (decide ((300 : Int) < (t.2.2.2.1.length : Int)))
  (.ret (.c (.int .i64 2)) [.cells 39 (Ty.enc tProg p), .cells 29 (Ty.enc tTrace t)])
  (.ite (decide ((200 : Int) < (t.2.2.2.2.1.length : Int)))
   (.ret (.c (.int .i64 2)) [.cells 39 (Ty.enc tProg p), .cells 29 (Ty.enc tTrace t)])
   (.ite (decide (t.1 < 0))
    (.ret (.c (.int .i64 3)) [.cells 39 (Ty.enc tProg p), .cells 29 (Ty.enc tTrace t)])
    (.ite (decide ((p.1.length : Int) ≤ t.1))
     (.ret (.c (.int .i64 3)) [.cells 39 (Ty.enc tProg p), .cells 29 (Ty.enc tTrace t)])
     (.ite (decide (t.2.1 < 0))
      (.ret (.c (.int .i64 3)) [.cells 39 (Ty.enc tProg p), .cells 29 (Ty.enc tTrace t)])
      (.need ((0 : Int) ≤ t.1 ∧ (t.1 : Int) < (p.1.length : Int)) <|
       .need ((Int.toNat t.1) < p.1.length) <|
       .ite (decide (((p.1.getD (Int.toNat t.1) tFn.dflt).2.2.2.2.length : Int) ≤ t.2.1))
       (.ret (.c (.int .i64 3)) [.cells 39 (Ty.enc tProg p), .cells 29 (Ty.enc tTrace t)])
       (.ite (decide (t.2.2.1 < 0))
        (.ret (.c (.int .i64 3)) [.cells 39 (Ty.enc tProg p), .cells 29 (Ty.enc tTrace t)])
        (.ite (decide ((t.2.2.2.1.length : Int) < t.2.2.1))
         (.ret (.c (.int .i64 3)) [.cells 39 (Ty.enc tProg p), .cells 29 (Ty.enc tTrace t)])
         (.stop (rg (bodyOf Tryd.f17) 8) (J2 (.c (.ptr 0 0 0 0) :: .c (.ptr 1 0 0 0) :: J32 (J32 (J32 (J32 (J32 (.junk :: []))))))) [.cells 39 (Ty.enc tProg p), .cells 29 (Ty.enc tTrace t)]))))))))
theorem check_r4_R_ok (p : EProg) (t : ETrace) : aRound Tryd.prog oc8 Tryd.f17 check_lv 3000 (rg (bodyOf Tryd.f17) 4) (J2 (.c (.ptr 0 0 0 0) :: .c (.ptr 1 0 0 0) :: J32 (J32 (J32 (J32 (J32 (.junk :: []))))))) [.cells 39 (Ty.enc tProg p), .cells 29 (Ty.enc tTrace t)] = check_r4_R p t := by kernel_rfl
theorem check_l1 (p : EProg) (t : ETrace) (i : Nat) (he : t.2.2.2.2.1.length ≤ 200) : Run Tryd.prog 17 (retQ Tryd.prog (.c (.int .i64 (exitsF (p.1.getD (Int.toNat t.1) tFn.dflt, t) (t.2.2.2.1.length : Int) (t.2.2.2.2.1.drop i))))) (lp (bodyOf Tryd.f17) 1) (J2 (.junk :: .c (.ptr 0 0 0 0) :: J2 (.c (.ptr 1 0 0 0) :: J32 (J32 (J32 (J32 (J16 (.c (.ro tExit t.2.2.2.2.1) :: .c (.int .i64 (t.2.2.2.2.1.length : Int)) :: .c (.int .i64 ((i : Nat) : Int)) :: J8 (J2 (.junk :: [])))))))))) [.cells 29 (Ty.enc tTrace t), .cells 86 (Ty.enc tChk (p.1.getD (Int.toNat t.1) tFn.dflt, t))] :=
  Run.roundA oc8 check_lv 3000 Tryd.func17 mixed (check_l1_R p t i) (check_l1_R_ok p t i) (by
    unfold check_l1_R
    refine g_iteD (fun h0 => ?_) (fun h0 => ?_)
    · refine g_need (by omega) ?_
      refine g_need (by omega) ?_
      refine g_call (rightX_fun ((p.1.getD (Int.toNat t.1) tFn.dflt), t) (t.2.2.2.2.1.getD i tExit.dflt) (t.2.2.2.1.length : Int)) (fun h => nomatch h) ?_
      refine g_iteN (fun h1 => ?_) (fun h1 => ?_)
      · exact g_reti (by rw [dropCons (α := EExit) (Ty.dflt tExit) (by omega)]; simp only [exitsF, h0, h1, if_true, if_false])
      · refine g_need (i64_iff.2 (by omega)) ?_
        refine g_stop (RunN.keep [0, 1] (F2 (false :: true :: F2 (true :: F32 (F32 (F32 (F32 (F16 (true :: true :: true :: F8 (F2 (false :: [])))))))))) n0 (by decide) rfl rfl ?_)
        have := check_l1 p t (i + 1) he; rw [dropCons (α := EExit) (Ty.dflt tExit) (by omega)]; simp only [exitsF, h0, h1, if_true, if_false, reduceCtorEq]; exact this
    · exact g_reti (by rw [List.drop_eq_nil_of_le (by omega)]; rfl)
    )
  termination_by t.2.2.2.2.1.length - i
  decreasing_by all_goals omega
theorem check_r23 (p : EProg) (t : ETrace) (he : t.2.2.2.2.1.length ≤ 200) : Run Tryd.prog 17 (retQ Tryd.prog (.c (.int .i64 (end3F (p.1.getD (Int.toNat t.1) tFn.dflt, t) t)))) (rg (bodyOf Tryd.f17) 23) bCe4 [.cells 29 (Ty.enc tTrace t), .cells 86 (Ty.enc tChk (p.1.getD (Int.toNat t.1) tFn.dflt, t))] :=
  Run.roundA oc8 check_lv 3000 Tryd.func17 mixed (check_r23_R p t) (check_r23_R_ok p t) (by
    unfold check_r23_R
    refine g_stop (RunN.keep [0, 1] (F2 (false :: true :: F2 (true :: F32 (F32 (F32 (F32 (F16 (true :: true :: true :: F8 (F2 (false :: [])))))))))) n0 (by decide) rfl rfl ?_)
    have ht := check_l1 p t 0 he; exact ht
    )
theorem check_r21 (p : EProg) (t : ETrace) (he : t.2.2.2.2.1.length ≤ 200) : Run Tryd.prog 17 (retQ Tryd.prog (.c (.int .i64 (end2F (p.1.getD (Int.toNat t.1) tFn.dflt, t) t)))) (rg (bodyOf Tryd.f17) 21) bCe4 [.cells 29 (Ty.enc tTrace t), .cells 86 (Ty.enc tChk (p.1.getD (Int.toNat t.1) tFn.dflt, t))] :=
  Run.roundA oc8 check_lv 3000 Tryd.func17 mixed (check_r21_R p t) (check_r21_R_ok p t) (by
    unfold check_r21_R
    refine g_iteND (fun h0 => ?_) (fun h0 => ?_)
    · exact g_reti (by simp only [end2F, backOk, h0, if_true, if_false, Bool.false_eq_true, reduceCtorEq, Int.reduceEq, Int.reduceNeg, decide_true, decide_false, Bool.not_true, Bool.not_false, Bool.and_true, Bool.true_and, Bool.and_false, Bool.false_and])
    · refine g_call (rightX_fun ((p.1.getD (Int.toNat t.1) tFn.dflt), t) t.2.2.2.2.2.2 (t.2.2.2.1.length : Int)) (fun h => nomatch h) ?_
      refine g_iteN (fun h1 => ?_) (fun h1 => ?_)
      · exact g_reti (by simp only [end2F, backOk, h0, h1, if_true, if_false, Bool.false_eq_true, reduceCtorEq, Int.reduceEq, Int.reduceNeg, decide_true, decide_false, Bool.not_true, Bool.not_false, Bool.and_true, Bool.true_and, Bool.and_false, Bool.false_and])
      · refine g_stop (RunN.keep [0, 1] (F2 (false :: true :: F2 (true :: F32 (F32 (F32 (F32 (F16 (F8 (F4 (F2 ([]))))))))))) n0 (by decide) rfl rfl ?_)
        have ht := check_r23 p t he; first | (simp only [end2F, backOk, h0, h1, if_true, if_false, Bool.false_eq_true, reduceCtorEq, Int.reduceEq, Int.reduceNeg, decide_true, decide_false, Bool.not_true, Bool.not_false, Bool.and_true, Bool.true_and, Bool.and_false, Bool.false_and]; exact ht) | (exfalso; simp_all; done) | (exfalso; omega)
    )
theorem check_r18 (p : EProg) (t : ETrace) (he : t.2.2.2.2.1.length ≤ 200) : Run Tryd.prog 17 (retQ Tryd.prog (.c (.int .i64 (end1F (p.1.getD (Int.toNat t.1) tFn.dflt, t) t)))) (rg (bodyOf Tryd.f17) 18) bCe4 [.cells 29 (Ty.enc tTrace t), .cells 86 (Ty.enc tChk (p.1.getD (Int.toNat t.1) tFn.dflt, t))] :=
  Run.roundA oc8 check_lv 3000 Tryd.func17 mixed (check_r18_R p t) (check_r18_R_ok p t) (by
    unfold check_r18_R
    refine g_iteD (fun h0 => ?_) (fun h0 => ?_)
    · refine g_call (bare_fun t.2.2.2.2.2.1) (fun h => nomatch h) ?_
      refine g_iteN (fun h1 => ?_) (fun h1 => ?_)
      · refine g_iteN (fun h2 => ?_) (fun h2 => ?_)
        · exact g_reti (by simp only [end1F, turnOk, h0, h1, h2, if_true, if_false, Bool.false_eq_true, reduceCtorEq, Int.reduceEq, Int.reduceNeg, decide_true, decide_false, Bool.not_true, Bool.not_false, Bool.and_true, Bool.true_and, Bool.and_false, Bool.false_and])
        · refine g_stop (RunN.keep [0, 1] (F2 (false :: true :: F2 (true :: F32 (F32 (F32 (F32 (F16 (F8 (F4 (F2 ([]))))))))))) n0 (by decide) rfl rfl ?_)
          have ht := check_r21 p t he; first | (simp only [end1F, turnOk, h0, h1, h2, if_true, if_false, Bool.false_eq_true, reduceCtorEq, Int.reduceEq, Int.reduceNeg, decide_true, decide_false, Bool.not_true, Bool.not_false, Bool.and_true, Bool.true_and, Bool.and_false, Bool.false_and]; exact ht) | (exfalso; simp_all; done) | (exfalso; omega)
      · refine g_iteD (fun h2 => ?_) (fun h2 => ?_)
        · refine g_iteND (fun h3 => ?_) (fun h3 => ?_)
          · exact g_reti (by simp_all [end1F, turnOk])
          · refine g_call (rightX_fun ((p.1.getD (Int.toNat t.1) tFn.dflt), t) t.2.2.2.2.2.1 t.2.2.1) (fun h => nomatch h) ?_
            refine g_iteN (fun h4 => ?_) (fun h4 => ?_)
            · exact g_reti (by simp_all [end1F, turnOk])
            · refine g_stop (RunN.keep [0, 1] (F2 (false :: true :: F2 (true :: F32 (F32 (F32 (F32 (F16 (F8 (F4 (F2 ([]))))))))))) n0 (by decide) rfl rfl ?_)
              have ht := check_r21 p t he; first | (simp only [end1F, turnOk, h0, h1, h2, h3, h4, if_true, if_false, Bool.false_eq_true, reduceCtorEq, Int.reduceEq, Int.reduceNeg, decide_true, decide_false, Bool.not_true, Bool.not_false, Bool.and_true, Bool.true_and, Bool.and_false, Bool.false_and]; exact ht) | (exfalso; simp_all; done) | (exfalso; omega)
        · refine g_stop (RunN.keep [0, 1] (F2 (false :: true :: F2 (true :: F32 (F32 (F32 (F32 (F16 (F8 (F4 (F2 ([]))))))))))) n0 (by decide) rfl rfl ?_)
          have ht := check_r21 p t he; first | (simp only [end1F, turnOk, h0, h1, h2, if_true, if_false, Bool.false_eq_true, reduceCtorEq, Int.reduceEq, Int.reduceNeg, decide_true, decide_false, Bool.not_true, Bool.not_false, Bool.and_true, Bool.true_and, Bool.and_false, Bool.false_and]; exact ht) | (exfalso; simp_all; done) | (exfalso; omega)
    · refine g_iteD (fun h1 => ?_) (fun h1 => ?_)
      · refine g_iteND (fun h2 => ?_) (fun h2 => ?_)
        · exact g_reti (by simp only [end1F, turnOk, h0, h1, h2, if_true, if_false, Bool.false_eq_true, reduceCtorEq, Int.reduceEq, Int.reduceNeg, decide_true, decide_false, Bool.not_true, Bool.not_false, Bool.and_true, Bool.true_and, Bool.and_false, Bool.false_and])
        · refine g_call (rightX_fun ((p.1.getD (Int.toNat t.1) tFn.dflt), t) t.2.2.2.2.2.1 t.2.2.1) (fun h => nomatch h) ?_
          refine g_iteN (fun h3 => ?_) (fun h3 => ?_)
          · exact g_reti (by simp only [end1F, turnOk, h0, h1, h2, h3, if_true, if_false, Bool.false_eq_true, reduceCtorEq, Int.reduceEq, Int.reduceNeg, decide_true, decide_false, Bool.not_true, Bool.not_false, Bool.and_true, Bool.true_and, Bool.and_false, Bool.false_and])
          · refine g_stop (RunN.keep [0, 1] (F2 (false :: true :: F2 (true :: F32 (F32 (F32 (F32 (F16 (F8 (F4 (F2 ([]))))))))))) n0 (by decide) rfl rfl ?_)
            have ht := check_r21 p t he; first | (simp only [end1F, turnOk, h0, h1, h2, h3, if_true, if_false, Bool.false_eq_true, reduceCtorEq, Int.reduceEq, Int.reduceNeg, decide_true, decide_false, Bool.not_true, Bool.not_false, Bool.and_true, Bool.true_and, Bool.and_false, Bool.false_and]; exact ht) | (exfalso; simp_all; done) | (exfalso; omega)
      · refine g_stop (RunN.keep [0, 1] (F2 (false :: true :: F2 (true :: F32 (F32 (F32 (F32 (F16 (F8 (F4 (F2 ([]))))))))))) n0 (by decide) rfl rfl ?_)
        have ht := check_r21 p t he; first | (simp only [end1F, turnOk, h0, h1, if_true, if_false, Bool.false_eq_true, reduceCtorEq, Int.reduceEq, Int.reduceNeg, decide_true, decide_false, Bool.not_true, Bool.not_false, Bool.and_true, Bool.true_and, Bool.and_false, Bool.false_and]; exact ht) | (exfalso; simp_all; done) | (exfalso; omega)
    )
theorem check_l0 (p : EProg) (t : ETrace) (i : Nat) (hl : t.2.2.2.1.length ≤ 300) (he : t.2.2.2.2.1.length ≤ 200) : Run Tryd.prog 17 (retQ Tryd.prog (.c (.int .i64 (thenF (insF (p.1.getD (Int.toNat t.1) tFn.dflt, t) i (t.2.2.2.1.drop i)) (end1F (p.1.getD (Int.toNat t.1) tFn.dflt, t) t))))) (lp (bodyOf Tryd.f17) 0) (bCe2 t i) [.cells 29 (Ty.enc tTrace t), .cells 86 (Ty.enc tChk (p.1.getD (Int.toNat t.1) tFn.dflt, t))] :=
  Run.roundA oc8 check_lv 3000 Tryd.func17 mixed (check_l0_R p t i) (check_l0_R_ok p t i) (by
    unfold check_l0_R
    refine g_iteD (fun h0 => ?_) (fun h0 => ?_)
    · refine g_need (by omega) ?_
      refine g_need (by omega) ?_
      refine g_call (of__fun (t.2.2.2.1.getD i tIns.dflt).1) (fun h => nomatch h) ?_
      refine g_iteN (fun h1 => ?_) (fun h1 => ?_)
      · exact g_reti (by rw [dropCons (α := EIns) (Ty.dflt tIns) (by omega)]; simp only [insF, thenF, h0, h1, if_true, if_false, Int.reduceEq, reduceCtorEq])
      · refine g_call (formed_fun ((p.1.getD (Int.toNat t.1) tFn.dflt), t) (ofF (t.2.2.2.1.getD i tIns.dflt).1).1 (t.2.2.2.1.getD i tIns.dflt) ((i : Nat) : Int) (ofF_asks _)) (fun h => nomatch h) ?_
        refine g_iteN (fun h2 => ?_) (fun h2 => ?_)
        · exact g_reti (by rw [dropCons (α := EIns) (Ty.dflt tIns) (by omega)]; simp only [insF, thenF, h0, h1, h2, if_true, if_false, Int.reduceEq, reduceCtorEq])
        · refine g_need (i64_iff.2 (by omega)) ?_
          refine g_stop (RunN.keep [0, 1] (F2 (false :: true :: F2 (true :: F32 (F32 (F8 (F2 (true :: true :: true :: F32 (F32 (F16 (false :: [])))))))))) n0 (by decide) rfl rfl ?_)
          have := check_l0 p t (i + 1) hl he; rw [dropCons (α := EIns) (Ty.dflt tIns) (by omega)]; simp only [insF, h0, h1, h2, if_true, if_false, reduceCtorEq]; exact this
    · refine g_stop (RunN.keep [0, 1] (F2 (false :: true :: F2 (true :: F32 (F32 (F32 (F32 (F16 (F8 (F4 (F2 ([]))))))))))) n0 (by decide) rfl rfl ?_)
      have ht := check_r18 p t he; rw [List.drop_eq_nil_of_le (by omega)]; exact ht
    )
  termination_by t.2.2.2.1.length - i
  decreasing_by all_goals omega
theorem check_r8 (p : EProg) (t : ETrace) (h0 : 0 ≤ t.1 ∧ t.1 < p.1.length) (hl : t.2.2.2.1.length ≤ 300) (he : t.2.2.2.2.1.length ≤ 200) : Run Tryd.prog 17 (retQ Tryd.prog (.c (.int .i64 (bodyF (p.1.getD (Int.toNat t.1) tFn.dflt, t) t)))) (rg (bodyOf Tryd.f17) 8) (J2 (.c (.ptr 0 0 0 0) :: .c (.ptr 1 0 0 0) :: J32 (J32 (J32 (J32 (J32 (.junk :: []))))))) [.cells 39 (Ty.enc tProg p), .cells 29 (Ty.enc tTrace t)] :=
  Run.roundA oc8 check_lv 3000 Tryd.func17 mixed (check_r8_R p t) (check_r8_R_ok p t) (by
    unfold check_r8_R
    refine g_need (by omega) ?_
    refine g_need (by omega) ?_
    refine g_stop (RunN.keep [1, 2] (F2 (false :: true :: F2 (true :: F32 (F32 (F8 (F2 (true :: true :: true :: F32 (F32 (F16 (false :: [])))))))))) n0 (by decide) rfl rfl ?_)
    have ht := check_l0 p t 0 hl he; exact ht
    )
theorem check_r4 (p : EProg) (t : ETrace)  : Run Tryd.prog 17 (retQ Tryd.prog (.c (.int .i64 (check4F p t)))) (rg (bodyOf Tryd.f17) 4) (J2 (.c (.ptr 0 0 0 0) :: .c (.ptr 1 0 0 0) :: J32 (J32 (J32 (J32 (J32 (.junk :: []))))))) [.cells 39 (Ty.enc tProg p), .cells 29 (Ty.enc tTrace t)] :=
  Run.roundA oc8 check_lv 3000 Tryd.func17 mixed (check_r4_R p t) (check_r4_R_ok p t) (by
    unfold check_r4_R
    refine g_iteD (fun h0 => ?_) (fun h0 => ?_)
    · exact g_reti (by simp only [check4F, sizeOk, headOk, h0, if_true, if_false, Bool.false_eq_true, reduceCtorEq, Int.reduceEq, Int.reduceNeg, decide_true, decide_false, Bool.not_true, Bool.not_false, Bool.and_true, Bool.true_and, Bool.and_false, Bool.false_and])
    · refine g_iteD (fun h1 => ?_) (fun h1 => ?_)
      · exact g_reti (by simp only [check4F, sizeOk, headOk, h0, h1, if_true, if_false, Bool.false_eq_true, reduceCtorEq, Int.reduceEq, Int.reduceNeg, decide_true, decide_false, Bool.not_true, Bool.not_false, Bool.and_true, Bool.true_and, Bool.and_false, Bool.false_and])
      · refine g_iteD (fun h2 => ?_) (fun h2 => ?_)
        · exact g_reti (by simp only [check4F, sizeOk, headOk, h0, h1, h2, if_true, if_false, Bool.false_eq_true, reduceCtorEq, Int.reduceEq, Int.reduceNeg, decide_true, decide_false, Bool.not_true, Bool.not_false, Bool.and_true, Bool.true_and, Bool.and_false, Bool.false_and])
        · refine g_iteD (fun h3 => ?_) (fun h3 => ?_)
          · exact g_reti (by simp only [check4F, sizeOk, headOk, h0, h1, h2, h3, if_true, if_false, Bool.false_eq_true, reduceCtorEq, Int.reduceEq, Int.reduceNeg, decide_true, decide_false, Bool.not_true, Bool.not_false, Bool.and_true, Bool.true_and, Bool.and_false, Bool.false_and])
          · refine g_iteD (fun h4 => ?_) (fun h4 => ?_)
            · exact g_reti (by simp only [check4F, sizeOk, headOk, h0, h1, h2, h3, h4, if_true, if_false, Bool.false_eq_true, reduceCtorEq, Int.reduceEq, Int.reduceNeg, decide_true, decide_false, Bool.not_true, Bool.not_false, Bool.and_true, Bool.true_and, Bool.and_false, Bool.false_and])
            · refine g_need (by omega) ?_
              refine g_need (by omega) ?_
              refine g_iteD (fun h5 => ?_) (fun h5 => ?_)
              · exact g_reti (by simp only [check4F, sizeOk, headOk, h0, h1, h2, h3, h4, h5, if_true, if_false, Bool.false_eq_true, reduceCtorEq, Int.reduceEq, Int.reduceNeg, decide_true, decide_false, Bool.not_true, Bool.not_false, Bool.and_true, Bool.true_and, Bool.and_false, Bool.false_and])
              · refine g_iteD (fun h6 => ?_) (fun h6 => ?_)
                · exact g_reti (by simp only [check4F, sizeOk, headOk, h0, h1, h2, h3, h4, h5, h6, if_true, if_false, Bool.false_eq_true, reduceCtorEq, Int.reduceEq, Int.reduceNeg, decide_true, decide_false, Bool.not_true, Bool.not_false, Bool.and_true, Bool.true_and, Bool.and_false, Bool.false_and])
                · refine g_iteD (fun h7 => ?_) (fun h7 => ?_)
                  · exact g_reti (by simp only [check4F, sizeOk, headOk, h0, h1, h2, h3, h4, h5, h6, h7, if_true, if_false, Bool.false_eq_true, reduceCtorEq, Int.reduceEq, Int.reduceNeg, decide_true, decide_false, Bool.not_true, Bool.not_false, Bool.and_true, Bool.true_and, Bool.and_false, Bool.false_and])
                  · refine g_stop (RunN.keep [0, 1] (F2 (true :: true :: F32 (F32 (F32 (F32 (F32 (false :: []))))))) n0 (by decide) rfl rfl ?_)
                    have ht := check_r8 p t (by omega) (by omega) (by omega); first | (simp only [check4F, sizeOk, headOk, h0, h1, h2, h3, h4, h5, h6, h7, if_true, if_false, Bool.false_eq_true, reduceCtorEq, Int.reduceEq, Int.reduceNeg, decide_true, decide_false, Bool.not_true, Bool.not_false, Bool.and_true, Bool.true_and, Bool.and_false, Bool.false_and]; exact ht) | (exfalso; simp_all; done) | (exfalso; omega)
    )
theorem check_fun (p : EProg) (t : ETrace) : AFun Tryd.prog 17 [.agg (tProg.enc p), .agg (tTrace.enc t)] (.c (.int .i64 (checkF p t))) :=
  AFun.of oc8 check_lv 3000 Tryd.func17 mixed rfl (by decide) (Nat.le_of_ble_eq_true rfl) _ (check_T_ok p t) fun hF => by
    unfold check_T
    refine g_call (codeCheck_fun p) (fun h => nomatch h) ?_
    refine g_iteND (fun h0 => ?_) (fun h0 => ?_)
    · exact g_reti (by simp only [checkF, h0, if_true, if_false])
    · refine g_stop (RunN.keep [0, 1] (F2 (true :: true :: F32 (F32 (F32 (F32 (F32 (false :: []))))))) n0 (by decide) rfl rfl ?_)
      have ht := check_r4 p t; first | (simp only [checkF, h0, if_true, if_false, Bool.false_eq_true, reduceCtorEq, Int.reduceEq, Int.reduceNeg, decide_true, decide_false, Bool.not_true, Bool.not_false, Bool.and_true, Bool.true_and, Bool.and_false, Bool.false_and]; exact ht) | (exfalso; simp_all; done) | (exfalso; omega)

end Go.Proofs.YtefkifdhjabdiaaDoor
