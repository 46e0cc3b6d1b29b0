/- What the laws' texts lean on, part 6: lemmas and the contracts of functions. No condition. -/
import Derived.Test.YtefkifdhjabdiaaDoorM4
namespace Go.Proofs.YtefkifdhjabdiaaDoor
set_option maxHeartbeats 4000000
set_option linter.unusedVariables false
set_option linter.unusedSimpArgs false
set_option maxRecDepth 100000

theorem rightVF_kind {v : EVal} (h : rightVF v = true) : 0 ≤ v.1 ∧ v.1 ≤ 6 := by
  unfold rightVF rightF at h
  simp only at h
  by_cases h3 : v.1 = 3
  · omega
  · rw [if_neg h3] at h
    by_cases h0 : v.1 = 0
    · omega
    · rw [if_neg h0] at h
      by_cases h1 : v.1 = 1
      · omega
      · rw [if_neg h1] at h
        by_cases h2 : v.1 = 2
        · omega
        · rw [if_neg h2] at h
          by_cases h4 : v.1 = 4 ∨ v.1 = 5
          · omega
          · rw [if_neg h4] at h
            by_cases h6 : v.1 = 6
            · omega
            · rw [if_neg h6] at h; cases h
theorem formed_iff {c : EChk} {f : EForm} {x : EIns} {a : Int} : formedF c f x a = true ↔ valuesF c ([x.2.1, x.2.2.1, x.2.2.2.1].take f.1.toNat) a = true ∧ restF x f.1 = true ∧ f.2.1 ≤ x.2.2.2.2.1 ∧ x.2.2.2.2.1 ≤ f.2.2.1 ∧ regOk c x = true ∧ kOk f x = true ∧ refOk x = true ∧ exitOk c f x a = true := by
  unfold formedF tailF tail2F
  rw [Bool.and_eq_true, Bool.and_eq_true]
  have key : (if x.2.2.2.2.1 < f.2.1 then false else if f.2.2.1 < x.2.2.2.2.1 then false else if regOk c x = true then (if kOk f x = true then (if refOk x = true then exitOk c f x a else false) else false) else false) = true ↔ f.2.1 ≤ x.2.2.2.2.1 ∧ x.2.2.2.2.1 ≤ f.2.2.1 ∧ regOk c x = true ∧ kOk f x = true ∧ refOk x = true ∧ exitOk c f x a = true := by
    by_cases h1 : x.2.2.2.2.1 < f.2.1
    · rw [if_pos h1]; exact ⟨fun h => (by cases h), fun h => absurd h.1 (by omega)⟩
    · rw [if_neg h1]
      by_cases h2 : f.2.2.1 < x.2.2.2.2.1
      · rw [if_pos h2]; exact ⟨fun h => (by cases h), fun h => absurd h.2.1 (by omega)⟩
      · rw [if_neg h2]
        by_cases h3 : regOk c x = true
        · rw [if_pos h3]
          by_cases h4 : kOk f x = true
          · rw [if_pos h4]
            by_cases h5 : refOk x = true
            · rw [if_pos h5]
              exact ⟨fun h => ⟨by omega, by omega, h3, h4, h5, h⟩, fun h => h.2.2.2.2.2⟩
            · rw [if_neg h5]; exact ⟨fun h => (by cases h), fun h => absurd h.2.2.2.2.1 h5⟩
          · rw [if_neg h4]; exact ⟨fun h => (by cases h), fun h => absurd h.2.2.2.1 h4⟩
        · rw [if_neg h3]; exact ⟨fun h => (by cases h), fun h => absurd h.2.2.1 h3⟩
  rw [key]
theorem mem_at {l : List EIns} {x : EIns} (h : x ∈ l) : ∃ i : Nat, l[i]? = some x := List.mem_iff_getElem?.1 h
theorem of_4 : (ofF 4).1 = (1, 0, 6, false, false, 2) := by decide
theorem of_2 : (ofF 2).1 = (0, 0, 0, true, true, 0) := by decide
theorem of_6 : (ofF 6).1 = (1, 0, 0, true, false, 2) := by decide
theorem CheckOk.kinds {p : EProg} {t : ETrace} (h : CheckOk p t) : ∀ x ∈ t.2.2.2.1, (x.1 = 2 → 0 ≤ x.2.2.2.2.2.2.1 ∧ x.2.2.2.2.2.2.1 ≤ 6) ∧ (x.1 = 4 → 0 ≤ x.2.2.2.2.1 ∧ x.2.2.2.2.1 ≤ 6) ∧ (x.1 = 6 → 0 ≤ x.2.2.2.2.2.2.1 ∧ x.2.2.2.2.2.2.1 ≤ 6) := by
  intro x hx
  obtain ⟨i, hi⟩ := mem_at hx
  obtain ⟨_, hf⟩ := h.ins i x hi
  obtain ⟨_, _, q1, q2, _, q3, _⟩ := formed_iff.1 hf
  refine ⟨fun e => ?_, fun e => ?_, fun e => ?_⟩
  · rw [e, of_2] at q3
    exact rightVF_kind q3
  · rw [e, of_4] at q1 q2
    exact ⟨q1, q2⟩
  · rw [e, of_6] at q3
    exact rightVF_kind q3
theorem scanK_range {v : Int} : ∀ {l : List EIns}, (∀ x ∈ l, (x.1 = 2 → 0 ≤ x.2.2.2.2.2.2.1 ∧ x.2.2.2.2.2.2.1 ≤ 6) ∧ (x.1 = 4 → 0 ≤ x.2.2.2.2.1 ∧ x.2.2.2.2.1 ≤ 6) ∧ (x.1 = 6 → 0 ≤ x.2.2.2.2.2.2.1 ∧ x.2.2.2.2.2.2.1 ≤ 6)) → -1 ≤ scanK v l ∧ scanK v l ≤ 6
  | [], _ => by unfold scanK; omega
  | x :: r, h => by
    have hr := scanK_range (v := v) (l := r) fun y hy => h y (List.mem_cons_of_mem _ hy)
    have hx := h x (by simp)
    unfold scanK
    repeat' split
    all_goals first | exact hr | omega | (have := hx.2.1 (by assumption); omega) | (have := hx.2.2 (by assumption); omega)
theorem scanK_app {v : Int} : ∀ {l r : List EIns}, 0 ≤ scanK v l → scanK v (l ++ r) = scanK v l
  | [], r, h => by unfold scanK at h; omega
  | x :: l, r, h => by
    rw [List.cons_append]
    unfold scanK at h ⊢
    repeat' split
    all_goals first | rfl | (refine scanK_app ?_; simp_all; done)
theorem kindN_range {p : EProg} {t : ETrace} (h : CheckOk p t) : ∀ (n : Nat) (v a : Int), -1 ≤ kindN t n v a ∧ kindN t n v a ≤ 6
  | 0, v, a => by unfold kindN; omega
  | n + 1, v, a => by
    unfold kindN
    split
    · omega
    · split
      · omega
      · split
        · omega
        · split
          · omega
          · have ih := kindN_range h n
            split
            · refine ⟨by omega, ?_⟩
              have hx := (h.kinds _ (getD_mem (α := EIns) (Ty.dflt tIns) (by omega : v.toNat < t.2.2.2.1.length))).1
              unfold ownK
              repeat' split
              all_goals first | omega | (have := hx (by assumption); omega) | (have := ih (t.2.2.2.1.getD v.toNat tIns.dflt).2.1 v; omega)
            · exact scanK_range fun x hx => h.kinds x (List.mem_of_mem_take (List.mem_of_mem_drop hx))
theorem kindF_range {p : EProg} {t : ETrace} (h : CheckOk p t) (v a : Int) : -1 ≤ kindF t v a ∧ kindF t v a ≤ 6 := kindN_range h _ v a
theorem kindF_later {t : ETrace} {v a b : Int} (hab : a ≤ b) (hb : b ≤ (t.2.2.2.1.length : Int)) (hk : 0 ≤ kindF t v a) : kindF t v b = kindF t v a := by
  unfold kindF at hk ⊢
  by_cases h1 : v < 0
  · simp only [kindN, h1, if_true]
  · by_cases h2 : a ≤ v
    · simp only [kindN, h1, h2, if_true, if_false] at hk; omega
    · have h3 : ¬ (t.2.2.2.1.length : Int) < a := by omega
      have h4 : ¬ (t.2.2.2.1.length : Int) < b := by omega
      have h5 : ¬ b ≤ v := by omega
      have e : (fun c => kindN t b.toNat c v) = (fun c => kindN t a.toNat c v) := funext fun c => kindN_more t _ _ c v (by omega) (by omega)
      cases h6 : tellF (t.2.2.2.1.getD v.toNat tIns.dflt).1 with
      | false => simp only [kindN, h1, h2, h3, h6, if_true, if_false] at hk; omega
      | true =>
        simp only [kindN, h1, h2, h3, h4, h5, h6, if_false, Bool.true_eq_false] at hk ⊢
        rw [e]
        split
        · rfl
        · rename_i h7
          rw [if_neg h7] at hk
          have e2 : (t.2.2.2.1.take b.toNat).drop (v + 1).toNat = (t.2.2.2.1.take a.toNat).drop (v + 1).toNat ++ (t.2.2.2.1.take b.toNat).drop a.toNat := by
            have : t.2.2.2.1.take b.toNat = t.2.2.2.1.take a.toNat ++ (t.2.2.2.1.take b.toNat).drop a.toNat := by
              conv => lhs; rw [← List.take_append_drop a.toNat (t.2.2.2.1.take b.toNat)]
              rw [List.take_take, Nat.min_eq_left (by omega)]
            conv => lhs; rw [this]
            rw [List.drop_append_of_le_length (by rw [List.length_take]; omega)]
          rw [e2]
          exact scanK_app hk
noncomputable def oc33 : Orc where
  pure := fun f args => match f, args with
    | 15, [] => some (.c (.bool (true)))
    | 17, [a0, a1] => match dA tProg a0, dA tTrace a1 with
      | some x0, some x1 => some (.c (.int .i64 (checkF x0 x1)))
      | _, _ => none
    | 20, [a0, a1] => match dA tI a0, dA tI a1 with
      | some x0, some x1 => some (.c (.int .i64 (restFm x0 x1)))
      | _, _ => none
    | 21, [a0, a1, a2] => match dA tTrace a0, dA tI a1, dA tI a2 with
      | some x0, some x1, some x2 => some (.c (.int .i64 (kindF x0 x1 x2)))
      | _, _, _ => none
    | _, _ => none
  heap := fun _ _ _ => none
def later_lv : LV := ⟨([]), []⟩
noncomputable def later_T (p : EProg) (t : ETrace) (v : Int) (a : Int) (b : Int) : Tree :=
  .call 17 [.agg (Ty.enc tProg p), .agg (Ty.enc tTrace t)] false (.c (.int .i64 (checkF p t))) <|
  .ite ((!(decide (checkF p t = 0))))
  (.call 15 [] false (.c (.bool true)) <|
   .ret (.c (.bool true)) [.cells 39 (Ty.enc tProg p), .cells 29 (Ty.enc tTrace t)])
  (.need (inR .i64 ((t.2.2.2.1.length : Int) + 1)) <|
   .call 20 [.c (.int .i64 a), .c (.int .i64 ((t.2.2.2.1.length : Int) + 1))] false (.c (.int .i64 (restFm a ((t.2.2.2.1.length : Int) + 1)))) <|
   .need (inR .i64 ((t.2.2.2.1.length : Int) + 1)) <|
   .call 20 [.c (.int .i64 b), .c (.int .i64 ((t.2.2.2.1.length : Int) + 1))] false (.c (.int .i64 (restFm b ((t.2.2.2.1.length : Int) + 1)))) <|
   .need (inR .i64 (restFm b ((t.2.2.2.1.length : Int) + 1))) <|
   .need (inR .i64 (restFm b ((t.2.2.2.1.length : Int) + 1))) <|
   .call 21 [.agg (Ty.enc tTrace t), .c (.int .i64 v), .c (.int .i64 (if restFm b ((t.2.2.2.1.length : Int) + 1) < restFm a ((t.2.2.2.1.length : Int) + 1) then restFm b ((t.2.2.2.1.length : Int) + 1) else restFm a ((t.2.2.2.1.length : Int) + 1)))] false (.c (.int .i64 (kindF t v (if restFm b ((t.2.2.2.1.length : Int) + 1) < restFm a ((t.2.2.2.1.length : Int) + 1) then restFm b ((t.2.2.2.1.length : Int) + 1) else restFm a ((t.2.2.2.1.length : Int) + 1))))) <|
   .call 15 [] false (.c (.bool true)) <|
   .ite (true)
   (.ite (decide (((-1) : Int) ≤ kindF t v (if restFm b ((t.2.2.2.1.length : Int) + 1) < restFm a ((t.2.2.2.1.length : Int) + 1) then restFm b ((t.2.2.2.1.length : Int) + 1) else restFm a ((t.2.2.2.1.length : Int) + 1))))
    (.ite (decide (kindF t v (if restFm b ((t.2.2.2.1.length : Int) + 1) < restFm a ((t.2.2.2.1.length : Int) + 1) then restFm b ((t.2.2.2.1.length : Int) + 1) else restFm a ((t.2.2.2.1.length : Int) + 1)) ≤ 6))
     (.ite (decide (kindF t v (if restFm b ((t.2.2.2.1.length : Int) + 1) < restFm a ((t.2.2.2.1.length : Int) + 1) then restFm b ((t.2.2.2.1.length : Int) + 1) else restFm a ((t.2.2.2.1.length : Int) + 1)) < 0))
      (.ret (.c (.lit true)) [.cells 39 (Ty.enc tProg p), .cells 29 (Ty.enc tTrace t)])
      (.call 21 [.agg (Ty.enc tTrace t), .c (.int .i64 v), .c (.int .i64 (if restFm b ((t.2.2.2.1.length : Int) + 1) > restFm a ((t.2.2.2.1.length : Int) + 1) then restFm b ((t.2.2.2.1.length : Int) + 1) else restFm a ((t.2.2.2.1.length : Int) + 1)))] false (.c (.int .i64 (kindF t v (if restFm b ((t.2.2.2.1.length : Int) + 1) > restFm a ((t.2.2.2.1.length : Int) + 1) then restFm b ((t.2.2.2.1.length : Int) + 1) else restFm a ((t.2.2.2.1.length : Int) + 1))))) <|
       .ret (.c (.bool (decide (kindF t v (if restFm b ((t.2.2.2.1.length : Int) + 1) > restFm a ((t.2.2.2.1.length : Int) + 1) then restFm b ((t.2.2.2.1.length : Int) + 1) else restFm a ((t.2.2.2.1.length : Int) + 1)) = kindF t v (if restFm b ((t.2.2.2.1.length : Int) + 1) < restFm a ((t.2.2.2.1.length : Int) + 1) then restFm b ((t.2.2.2.1.length : Int) + 1) else restFm a ((t.2.2.2.1.length : Int) + 1)))))) [.cells 39 (Ty.enc tProg p), .cells 29 (Ty.enc tTrace t)]))
     (.ret (.c (.lit false)) [.cells 39 (Ty.enc tProg p), .cells 29 (Ty.enc tTrace t)]))
    (.ret (.c (.lit false)) [.cells 39 (Ty.enc tProg p), .cells 29 (Ty.enc tTrace t)]))
   (.ret (.c (.lit false)) [.cells 39 (Ty.enc tProg p), .cells 29 (Ty.enc tTrace t)]))
theorem later_T_ok (p : EProg) (t : ETrace) (v : Int) (a : Int) (b : Int) : aRun Tryd.prog oc33 Tryd.f5 later_lv 3000 [.code (bodyOf Tryd.f5)] ([.agg (tProg.enc p), .agg (tTrace.enc t), .c (.int .i64 v), .c (.int .i64 a), .c (.int .i64 b)] ++ List.replicate (Func.ntmps Tryd.f5 - 5) .junk) [] = later_T p t v a b := by kernel_rfl
theorem later_fun (p : EProg) (t : ETrace) (v : Int) (a : Int) (b : Int) : AFun Tryd.prog 5 [.agg (tProg.enc p), .agg (tTrace.enc t), .c (.int .i64 v), .c (.int .i64 a), .c (.int .i64 b)] (.c (.bool (true))) :=
  AFun.of oc33 later_lv 3000 Tryd.func5 mixed rfl (by decide) (Nat.le_of_ble_eq_true rfl) _ (later_T_ok p t v a b) fun hF => by
    unfold later_T
    refine g_call (check_fun p t) (fun h => nomatch h) ?_
    refine g_iteND (fun h0 => ?_) (fun h0 => ?_)
    · refine g_call (irred_fun) (fun h => nomatch h) ?_
      exact g_retb (by first | rfl | (exfalso; first | omega | (have := kindF_range hc v (if restFm b ((t.2.2.2.1.length : Int) + 1) < restFm a ((t.2.2.2.1.length : Int) + 1) then restFm b ((t.2.2.2.1.length : Int) + 1) else restFm a ((t.2.2.2.1.length : Int) + 1)); omega) | (simp_all; done)) | exact decide_eq_true (kindF_later (by split <;> split <;> omega) (by split <;> omega) (by omega)))
    · have hc := check_iff.1 h0
      have ra := restFm_ok (n := a) (m := (t.2.2.2.1.length : Int) + 1) (by omega)
      have rb := restFm_ok (n := b) (m := (t.2.2.2.1.length : Int) + 1) (by omega)
      have hn := hc.n
      refine g_need (by first | omega | (rw [i64_iff]; omega) | (rw [i64_iff]; constructor <;> omega)) ?_
      refine g_call (rest_fun a ((t.2.2.2.1.length : Int) + 1) (by omega)) (fun h => nomatch h) ?_
      refine g_need (by first | omega | (rw [i64_iff]; omega) | (rw [i64_iff]; constructor <;> omega)) ?_
      refine g_call (rest_fun b ((t.2.2.2.1.length : Int) + 1) (by omega)) (fun h => nomatch h) ?_
      refine g_need (by first | omega | (rw [i64_iff]; omega) | (rw [i64_iff]; constructor <;> omega)) ?_
      refine g_need (by first | omega | (rw [i64_iff]; omega) | (rw [i64_iff]; constructor <;> omega)) ?_
      refine g_call (kind_fun t v (if restFm b ((t.2.2.2.1.length : Int) + 1) < restFm a ((t.2.2.2.1.length : Int) + 1) then restFm b ((t.2.2.2.1.length : Int) + 1) else restFm a ((t.2.2.2.1.length : Int) + 1))) (fun h => nomatch h) ?_
      refine g_call (irred_fun) (fun h => nomatch h) ?_
      refine g_ite (fun h1 => ?_) (fun h1 => ?_)
      · refine g_iteD (fun h2 => ?_) (fun h2 => ?_)
        · refine g_iteD (fun h3 => ?_) (fun h3 => ?_)
          · refine g_iteD (fun h4 => ?_) (fun h4 => ?_)
            · exact g_retl (by first | rfl | (exfalso; first | omega | (have := kindF_range hc v (if restFm b ((t.2.2.2.1.length : Int) + 1) < restFm a ((t.2.2.2.1.length : Int) + 1) then restFm b ((t.2.2.2.1.length : Int) + 1) else restFm a ((t.2.2.2.1.length : Int) + 1)); omega) | (simp_all; done)) | exact decide_eq_true (kindF_later (by split <;> split <;> omega) (by split <;> omega) (by omega)))
            · refine g_call (kind_fun t v (if restFm b ((t.2.2.2.1.length : Int) + 1) > restFm a ((t.2.2.2.1.length : Int) + 1) then restFm b ((t.2.2.2.1.length : Int) + 1) else restFm a ((t.2.2.2.1.length : Int) + 1))) (fun h => nomatch h) ?_
              exact g_retb (by first | rfl | (exfalso; first | omega | (have := kindF_range hc v (if restFm b ((t.2.2.2.1.length : Int) + 1) < restFm a ((t.2.2.2.1.length : Int) + 1) then restFm b ((t.2.2.2.1.length : Int) + 1) else restFm a ((t.2.2.2.1.length : Int) + 1)); omega) | (simp_all; done)) | exact decide_eq_true (kindF_later (by split <;> split <;> omega) (by split <;> omega) (by omega)))
          · exact g_retl (by first | rfl | (exfalso; first | omega | (have := kindF_range hc v (if restFm b ((t.2.2.2.1.length : Int) + 1) < restFm a ((t.2.2.2.1.length : Int) + 1) then restFm b ((t.2.2.2.1.length : Int) + 1) else restFm a ((t.2.2.2.1.length : Int) + 1)); omega) | (simp_all; done)) | exact decide_eq_true (kindF_later (by split <;> split <;> omega) (by split <;> omega) (by omega)))
        · exact g_retl (by first | rfl | (exfalso; first | omega | (have := kindF_range hc v (if restFm b ((t.2.2.2.1.length : Int) + 1) < restFm a ((t.2.2.2.1.length : Int) + 1) then restFm b ((t.2.2.2.1.length : Int) + 1) else restFm a ((t.2.2.2.1.length : Int) + 1)); omega) | (simp_all; done)) | exact decide_eq_true (kindF_later (by split <;> split <;> omega) (by split <;> omega) (by omega)))
      · exact g_retl (by first | rfl | (exfalso; first | omega | (have := kindF_range hc v (if restFm b ((t.2.2.2.1.length : Int) + 1) < restFm a ((t.2.2.2.1.length : Int) + 1) then restFm b ((t.2.2.2.1.length : Int) + 1) else restFm a ((t.2.2.2.1.length : Int) + 1)); omega) | (simp_all; done)) | exact decide_eq_true (kindF_later (by split <;> split <;> omega) (by split <;> omega) (by omega)))

end Go.Proofs.YtefkifdhjabdiaaDoor
