/- What the laws' texts lean on, part 6: lemmas and the contracts of functions. No condition. -/
import Derived.Test.YtkonkblfckhcbaaGreatDoorM2
import Derived.Test.YtkonkblfckhcbaaGreatDoorM4
import Derived.Test.YtkonkblfckhcbaaGreatDoorM3
namespace Go.Proofs.YtkonkblfckhcbaaGreatDoor
set_option linter.unusedVariables false
set_option linter.unusedSimpArgs false
open Go.RowKit
theorem Stp.fresh {σ : Sg} {G G' : Nat → AB} {w w' : World} {m g : Nat} (hr : RelG σ G w) (hm : ¬ σ.D m) (hb : Below w.heap.size w w') (hg : w.heap.size ≤ g) (hB : ∀ σ', Ext σ w σ' w' → Blk σ' w' g (fun _ => False) (G' m)) :
  Stp σ G w [m] G' ⟨fun k => if k = m then g else σ.ι k, fun k => σ.D k ∨ k = m, σ.R, fun b k => if b = m then False else σ.F b k⟩ w' := by
 have hx : Ext σ w ⟨fun k => if k = m then g else σ.ι k, fun k => σ.D k ∨ k = m, σ.R, fun b k => if b = m then False else σ.F b k⟩ w' :=
  ⟨fun k hk => ⟨.inl hk, by simp only; rw [if_neg (by rintro rfl; exact hm hk)]⟩, fun _ h => h, fun k _ hlt => hb.block k hlt, fun k c e' fr hk => ⟨c, fr, by rw [hb.block k (Array.getElem?_eq_some_iff.1 hk).1]; exact hk, rfl⟩⟩
 refine ⟨fun b => by simp, hx, (Chg.of_below hb).mono fun _ h => h.elim, ?_, ?_, ?_, fun k h => .inl h, ?_, fun k hk => Nat.lt_of_lt_of_le (hr.rlt k hk) hb.size, ?_, ?_⟩
 ·intro b hb' _
  obtain rfl : b = m := by simpa using hb'
  have := hB _ hx
  simpa using this
 ·intro b hb' _ k hk
  obtain rfl : b = m := by simpa using hb'
  right
  rcases hk with hk | hk
  ·rw [← hk]; simpa using hg
  ·simp at hk
 ·intro b hb' b' hb'' _ _ _ _ _
  obtain rfl : b = m := by simpa using hb'
  obtain rfl : b' = b := by simpa using hb''
  rfl
 ·intro b hb' _ k hk hR
  obtain rfl : b = m := by simpa using hb'
  have := hr.rlt _ hR
  rcases hk with hk | hk
  ·rw [← hk] at this; simp at this; omega
  ·simp at hk
 ·intro b hb' _ k hk
  obtain rfl : b = m := by simpa using hb'
  simp at hk
 ·intro b _ hb'
  have hb' : b ≠ m := by simpa using hb'
  funext k
  exact if_neg hb'
/-- A function that tells a row of its own. -/
theorem AFunH.ofOwn {f : Nat} {t u : Ty} {e : TypeId} {xs : List t.El} {ys : List u.El} (hp : (t.rd : Rd t.El).sz = t.sz) (hen : ∀ v w, (callFunc f #[v]).run Tryz.prog w = .ok (.enter f #[v]) w) (h : ∀ (ok : Nat → Prop) (w : World) (v : Value), (∀ k, ok k → k < w.heap.size) → SlK u.rd ok w ys v → Calls Tryz.prog f #[v] w fun e' w' => ∃ v1, e' = .returned v1 ∧ Below w.heap.size w w' ∧ ((xs = [] ∧ ∃ A, v1 = .slice A 0 0) ∨ xs ≠ [] ∧ Own t.rd e ok w' w.heap.size v1 xs)) :
  AFunH Tryz.prog f [.c (.ro u ys)] [] (.c (.osl 0 t.sz xs.length)) [.ovec e t xs] [0] where
 len := by simp
 lt := by simp
 off := fun b hb => by
  have : b ≠ 0 := by simpa using hb
  rw [gv_none (by simp; omega), gv_none (by simp)]
 act := fun σ w vs hr hD hv => by
  obtain ⟨x, r, rfl, hx, hr'⟩ := vals_one hv
  obtain rfl := vals_nil hr'
  have hm : ¬ σ.D 0 := hD 0 (by simp) (by simp)
  refine .inl ⟨hen x w, (h σ.R w x hr.rlt hx).mono fun e' w' ⟨v1, he, hb, hq⟩ => ⟨v1, he, ?_⟩⟩
  clear he
  rcases hq with ⟨hn, A, rfl⟩ | ⟨hn, ho⟩
  ·subst hn
   refine ⟨_, Stp.fresh (g := w.heap.size) hr hm hb (Nat.le_refl _) (fun σ' _ => ?_), ?_⟩
   ·show Blk σ' w' _ _ (gv [AB.ovec e t []] 0)
    trivial
   ·exact ⟨A, rfl⟩
  ·obtain ⟨cells, ⟨hl, h2⟩, hxs⟩ := ho.ex
   have hlen : xs.length ≠ 0 := fun h => hn (List.eq_nil_of_length_eq_zero h)
   rcases h2 with ⟨_, h0⟩ | ⟨g, cap, cur, rfl, hg, hh, hc, hmx, hsz, htk⟩
   ·exact absurd h0 hlen
   ·refine ⟨_, Stp.fresh (g := g) hr hm hb hg (fun σ' hσ => ?_), ?_⟩
    ·show Blk σ' w' g _ (gv [AB.ovec e t xs] 0)
     rw [gv_ovec rfl hn]
     refine ⟨cur, hh, ?_, fun i y hi => ?_⟩
     ·rw [hsz, hp]; exact Nat.mul_le_mul_right _ hc
     ·have hi' : i < xs.length := (List.getElem?_eq_some_iff.1 hi).1
      have hq := hxs i y hi
      rw [hp, ← htk] at hq
      have e1 : (cur.toList.take (xs.length * t.rd.sz)).drop (i * t.sz) = (cur.toList.drop (i * t.sz)).take (xs.length * t.rd.sz - i * t.sz) := by rw [List.drop_take]
      rw [e1, List.take_take, Nat.min_eq_left (by rw [hp, ← Nat.sub_mul]; exact Nat.le_mul_of_pos_left _ (by omega))] at hq
      exact t.rd.mono (fun k hk => hσ.R k hk.1) hq
    ·show if xs.length = 0 then _ else _
     rw [if_neg hlen]
     exact ⟨.inr rfl, t.sz_pos, cap, cur, e, (0, 0), by simp, hc, by simpa [maxLen] using hmx, by simpa using hh, by rw [hsz, hp]⟩
theorem infoKV : (Tryz.prog.info? 48).map (fun i => (i.zero, i.size, i.bytes)) = some (some (Value.agg #[.int .i64 0, .int .i64 0]), 2, 16) := by kernel_rfl
set_option maxRecDepth 100000 in
set_option maxHeartbeats 4000000 in
theorem cloneKV_any (xs : List EVal) (hl : xs.length ≤ 1000) (ok : Nat → Prop) (w : World) (v : Value) (hok : ∀ k, ok k → k < w.heap.size) (h : SlK tVal.rd ok w xs v) :
  Calls Tryz.prog 82 #[v] w fun e w' => ∃ v1, e = .returned v1 ∧ Below w.heap.size w w' ∧ ((xs = [] ∧ ∃ A, v1 = .slice A 0 0) ∨ xs ≠ [] ∧ Own tVal.rd 48 ok w' w.heap.size v1 xs) := by
 obtain ⟨A, c, hv, h1, h2, h3, hC⟩ := h
 injection hv with hv
 subst hv
 cases A with
 | none =>
  have hc : c = 0 := h3 rfl
  subst hc
  have hx : xs = [] := List.eq_nil_of_length_eq_zero (by omega)
  subst hx
  clear hC h1 h2 h3 hl
  have hq : ([] : List EVal).length = 0 := rfl
  rw [hq]
  have heq : ∀ w, (binOp .eql 23 (.slice none 0 0) (.slice none 0 0)).run Tryz.prog w = .ok (.bool true) w := fun w => run_eql_nil_nil w _ _ Tryz.underlying23
  go_enter Tryz.func82, Tryz.ntmps82
  go_wp2_with fail
  go_ret
  exact ⟨_, rfl, Below.refl _ _, (by first | exact ⟨none, rfl⟩ | exact .inl ⟨trivial, none, rfl⟩)⟩
 | some a =>
  have heq : ∀ w, (binOp .eql 23 (.slice (some a) xs.length c) (.slice none 0 0)).run Tryz.prog w = .ok (.bool false) w := fun w => run_eql_some_nil w _ _ _ _ _ Tryz.underlying23
  have hB : Below w.heap.size w (w.alloc (.cells #[] 48)) := (Below.refl _ _).alloc (Nat.le_refl _) _
  have main : ∃ v1 w2, (Builtin.append_ #[23, 23] 23 #[.slice (some ⟨w.heap.size, 0, none⟩) 0 0, .slice (some a) xs.length c]).run Tryz.prog (w.alloc (.cells #[] 48)) = .ok v1 w2 ∧ Below w.heap.size w w2 ∧ ((xs = [] ∧ ∃ A, v1 = .slice A 0 0) ∨ xs ≠ [] ∧ Own tVal.rd 48 ok w2 w.heap.size v1 xs) := by
   by_cases hx : xs = []
   ·subst hx
    obtain ⟨ie, hie, _⟩ := Option.map_eq_some_iff.1 infoKV
    exact ⟨_, _, run_append_none Tryz.underlying23 hie _ _ _ 0 0 _ c (Nat.le_refl _), hB, .inl ⟨rfl, _, rfl⟩⟩
   ·obtain ⟨v1, w2, hr, ho, hg, hat⟩ := (Own.laid tVal.rd 48 ok w w.heap.size (Nat.le_refl _)).append (t := 23) Tryz.underlying23 infoKV rfl (by decide) (by decide) (some a) xs.length c (fun h => by cases h) (hC.move (fun k hk _ => hB.block k (hok k hk))) (fun k hk => ⟨hk, by simp only [Value.ownBlock]; intro he; injection he with he; have := hok k hk; omega⟩) (by simp; omega) (by simp) 23
    exact ⟨v1, w2, hr, hB.grown hg hB.size (fun k hk => by simp [Value.ownBlock] at hk; omega), .inr ⟨hx, by rw [List.nil_append] at ho; exact ho⟩⟩
  obtain ⟨v1, w2, hr, hres⟩ := main
  have H := Lib.hid hres
  clear hres hB hC h3 h1 h2 hl hok
  generalize xs.length = m at *
  go_enter Tryz.func82, Tryz.ntmps82
  go_wp2_with (at_builtin; refine wpList_append_eq rfl _ _ _ rfl _ _ rfl rfl hr ?_)
  go_ret
  exact ⟨_, rfl, H.out.1, H.out.2⟩
theorem cloneKV_fun (xs : List EVal) (hl : xs.length ≤ 1000) : AFunH Tryz.prog 82 [.c (.ro tVal xs)] [] (.c (.osl 0 2 xs.length)) [.ovec 48 tVal xs] [0] :=
 AFunH.ofOwn (t := tVal) (u := tVal) rfl (fun v w => enters_of Tryz.func82 (by decide) rfl _ _) (cloneKV_any xs hl)
theorem infoKF : (Tryz.prog.info? 61).map (fun i => (i.zero, i.size, i.bytes)) = some (some (Value.agg #[.int .i64 0, .int .i64 0, .int .i64 0, .int .i64 0, .int .i64 0, .int .i64 0, .slice none 0 0, .slice none 0 0]), 8, 96) := by kernel_rfl
set_option maxRecDepth 100000 in
set_option maxHeartbeats 4000000 in
theorem cloneKF_any (xs : List EFrame) (hl : xs.length ≤ 1000) (ok : Nat → Prop) (w : World) (v : Value) (hok : ∀ k, ok k → k < w.heap.size) (h : SlK tFrame.rd ok w xs v) :
  Calls Tryz.prog 84 #[v] w fun e w' => ∃ v1, e = .returned v1 ∧ Below w.heap.size w w' ∧ ((xs = [] ∧ ∃ A, v1 = .slice A 0 0) ∨ xs ≠ [] ∧ Own tFrame.rd 61 ok w' w.heap.size v1 xs) := by
 obtain ⟨A, c, hv, h1, h2, h3, hC⟩ := h
 injection hv with hv
 subst hv
 cases A with
 | none =>
  have hc : c = 0 := h3 rfl
  subst hc
  have hx : xs = [] := List.eq_nil_of_length_eq_zero (by omega)
  subst hx
  clear hC h1 h2 h3 hl
  have hq : ([] : List EFrame).length = 0 := rfl
  rw [hq]
  have heq : ∀ w, (binOp .eql 53 (.slice none 0 0) (.slice none 0 0)).run Tryz.prog w = .ok (.bool true) w := fun w => run_eql_nil_nil w _ _ Tryz.underlying53
  go_enter Tryz.func84, Tryz.ntmps84
  go_wp2_with fail
  go_ret
  exact ⟨_, rfl, Below.refl _ _, (by first | exact ⟨none, rfl⟩ | exact .inl ⟨trivial, none, rfl⟩)⟩
 | some a =>
  have heq : ∀ w, (binOp .eql 53 (.slice (some a) xs.length c) (.slice none 0 0)).run Tryz.prog w = .ok (.bool false) w := fun w => run_eql_some_nil w _ _ _ _ _ Tryz.underlying53
  have hB : Below w.heap.size w (w.alloc (.cells #[] 61)) := (Below.refl _ _).alloc (Nat.le_refl _) _
  have main : ∃ v1 w2, (Builtin.append_ #[53, 53] 53 #[.slice (some ⟨w.heap.size, 0, none⟩) 0 0, .slice (some a) xs.length c]).run Tryz.prog (w.alloc (.cells #[] 61)) = .ok v1 w2 ∧ Below w.heap.size w w2 ∧ ((xs = [] ∧ ∃ A, v1 = .slice A 0 0) ∨ xs ≠ [] ∧ Own tFrame.rd 61 ok w2 w.heap.size v1 xs) := by
   by_cases hx : xs = []
   ·subst hx
    obtain ⟨ie, hie, _⟩ := Option.map_eq_some_iff.1 infoKF
    exact ⟨_, _, run_append_none Tryz.underlying53 hie _ _ _ 0 0 _ c (Nat.le_refl _), hB, .inl ⟨rfl, _, rfl⟩⟩
   ·obtain ⟨v1, w2, hr, ho, hg, hat⟩ := (Own.laid tFrame.rd 61 ok w w.heap.size (Nat.le_refl _)).append (t := 53) Tryz.underlying53 infoKF rfl (by decide) (by decide) (some a) xs.length c (fun h => by cases h) (hC.move (fun k hk _ => hB.block k (hok k hk))) (fun k hk => ⟨hk, by simp only [Value.ownBlock]; intro he; injection he with he; have := hok k hk; omega⟩) (by simp; omega) (by simp) 53
    exact ⟨v1, w2, hr, hB.grown hg hB.size (fun k hk => by simp [Value.ownBlock] at hk; omega), .inr ⟨hx, by rw [List.nil_append] at ho; exact ho⟩⟩
  obtain ⟨v1, w2, hr, hres⟩ := main
  have H := Lib.hid hres
  clear hres hB hC h3 h1 h2 hl hok
  generalize xs.length = m at *
  go_enter Tryz.func84, Tryz.ntmps84
  go_wp2_with (at_builtin; refine wpList_append_eq rfl _ _ _ rfl _ _ rfl rfl hr ?_)
  go_ret
  exact ⟨_, rfl, H.out.1, H.out.2⟩
theorem cloneKF_fun (xs : List EFrame) (hl : xs.length ≤ 1000) : AFunH Tryz.prog 84 [.c (.ro tFrame xs)] [] (.c (.osl 0 8 xs.length)) [.ovec 61 tFrame xs] [0] :=
 AFunH.ofOwn (t := tFrame) (u := tFrame) rfl (fun v w => enters_of Tryz.func84 (by decide) rfl _ _) (cloneKF_any xs hl)
theorem infoKY : (Tryz.prog.info? 101).map (fun i => (i.zero, i.size, i.bytes)) = some (some (Value.agg #[.int .i64 0, .int .i64 0]), 2, 16) := by kernel_rfl
set_option maxRecDepth 100000 in
set_option maxHeartbeats 4000000 in
theorem cloneKY_any (xs : List EVal) (hl : xs.length ≤ 1000) (ok : Nat → Prop) (w : World) (v : Value) (hok : ∀ k, ok k → k < w.heap.size) (h : SlK tVal.rd ok w xs v) :
  Calls Tryz.prog 85 #[v] w fun e w' => ∃ v1, e = .returned v1 ∧ Below w.heap.size w w' ∧ ((xs = [] ∧ ∃ A, v1 = .slice A 0 0) ∨ xs ≠ [] ∧ Own tVal.rd 101 ok w' w.heap.size v1 xs) := by
 obtain ⟨A, c, hv, h1, h2, h3, hC⟩ := h
 injection hv with hv
 subst hv
 cases A with
 | none =>
  have hc : c = 0 := h3 rfl
  subst hc
  have hx : xs = [] := List.eq_nil_of_length_eq_zero (by omega)
  subst hx
  clear hC h1 h2 h3 hl
  have hq : ([] : List EVal).length = 0 := rfl
  rw [hq]
  have heq : ∀ w, (binOp .eql 59 (.slice none 0 0) (.slice none 0 0)).run Tryz.prog w = .ok (.bool true) w := fun w => run_eql_nil_nil w _ _ Tryz.underlying59
  go_enter Tryz.func85, Tryz.ntmps85
  go_wp2_with fail
  go_ret
  exact ⟨_, rfl, Below.refl _ _, (by first | exact ⟨none, rfl⟩ | exact .inl ⟨trivial, none, rfl⟩)⟩
 | some a =>
  have heq : ∀ w, (binOp .eql 59 (.slice (some a) xs.length c) (.slice none 0 0)).run Tryz.prog w = .ok (.bool false) w := fun w => run_eql_some_nil w _ _ _ _ _ Tryz.underlying59
  have hB : Below w.heap.size w (w.alloc (.cells #[] 101)) := (Below.refl _ _).alloc (Nat.le_refl _) _
  have main : ∃ v1 w2, (Builtin.append_ #[59, 59] 59 #[.slice (some ⟨w.heap.size, 0, none⟩) 0 0, .slice (some a) xs.length c]).run Tryz.prog (w.alloc (.cells #[] 101)) = .ok v1 w2 ∧ Below w.heap.size w w2 ∧ ((xs = [] ∧ ∃ A, v1 = .slice A 0 0) ∨ xs ≠ [] ∧ Own tVal.rd 101 ok w2 w.heap.size v1 xs) := by
   by_cases hx : xs = []
   ·subst hx
    obtain ⟨ie, hie, _⟩ := Option.map_eq_some_iff.1 infoKY
    exact ⟨_, _, run_append_none Tryz.underlying59 hie _ _ _ 0 0 _ c (Nat.le_refl _), hB, .inl ⟨rfl, _, rfl⟩⟩
   ·obtain ⟨v1, w2, hr, ho, hg, hat⟩ := (Own.laid tVal.rd 101 ok w w.heap.size (Nat.le_refl _)).append (t := 59) Tryz.underlying59 infoKY rfl (by decide) (by decide) (some a) xs.length c (fun h => by cases h) (hC.move (fun k hk _ => hB.block k (hok k hk))) (fun k hk => ⟨hk, by simp only [Value.ownBlock]; intro he; injection he with he; have := hok k hk; omega⟩) (by simp; omega) (by simp) 59
    exact ⟨v1, w2, hr, hB.grown hg hB.size (fun k hk => by simp [Value.ownBlock] at hk; omega), .inr ⟨hx, by rw [List.nil_append] at ho; exact ho⟩⟩
  obtain ⟨v1, w2, hr, hres⟩ := main
  have H := Lib.hid hres
  clear hres hB hC h3 h1 h2 hl hok
  generalize xs.length = m at *
  go_enter Tryz.func85, Tryz.ntmps85
  go_wp2_with (at_builtin; refine wpList_append_eq rfl _ _ _ rfl _ _ rfl rfl hr ?_)
  go_ret
  exact ⟨_, rfl, H.out.1, H.out.2⟩
theorem cloneKY_fun (xs : List EVal) (hl : xs.length ≤ 1000) : AFunH Tryz.prog 85 [.c (.ro tVal xs)] [] (.c (.osl 0 2 xs.length)) [.ovec 101 tVal xs] [0] :=
 AFunH.ofOwn (t := tVal) (u := tVal) rfl (fun v w => enters_of Tryz.func85 (by decide) rfl _ _) (cloneKY_any xs hl)
theorem infoKC : (Tryz.prog.info? 55).map (fun i => (i.zero, i.size, i.bytes)) = some (some (Value.agg #[.int .i64 0, .int .i64 0, .slice none 0 0, .slice none 0 0]), 4, 64) := by kernel_rfl
set_option maxRecDepth 100000 in
set_option maxHeartbeats 4000000 in
theorem cloneKC_any (xs : List ECell) (hl : xs.length ≤ 1000) (ok : Nat → Prop) (w : World) (v : Value) (hok : ∀ k, ok k → k < w.heap.size) (h : SlK tCell.rd ok w xs v) :
  Calls Tryz.prog 86 #[v] w fun e w' => ∃ v1, e = .returned v1 ∧ Below w.heap.size w w' ∧ ((xs = [] ∧ ∃ A, v1 = .slice A 0 0) ∨ xs ≠ [] ∧ Own tCell.rd 55 ok w' w.heap.size v1 xs) := by
 obtain ⟨A, c, hv, h1, h2, h3, hC⟩ := h
 injection hv with hv
 subst hv
 cases A with
 | none =>
  have hc : c = 0 := h3 rfl
  subst hc
  have hx : xs = [] := List.eq_nil_of_length_eq_zero (by omega)
  subst hx
  clear hC h1 h2 h3 hl
  have hq : ([] : List ECell).length = 0 := rfl
  rw [hq]
  have heq : ∀ w, (binOp .eql 35 (.slice none 0 0) (.slice none 0 0)).run Tryz.prog w = .ok (.bool true) w := fun w => run_eql_nil_nil w _ _ Tryz.underlying35
  go_enter Tryz.func86, Tryz.ntmps86
  go_wp2_with fail
  go_ret
  exact ⟨_, rfl, Below.refl _ _, (by first | exact ⟨none, rfl⟩ | exact .inl ⟨trivial, none, rfl⟩)⟩
 | some a =>
  have heq : ∀ w, (binOp .eql 35 (.slice (some a) xs.length c) (.slice none 0 0)).run Tryz.prog w = .ok (.bool false) w := fun w => run_eql_some_nil w _ _ _ _ _ Tryz.underlying35
  have hB : Below w.heap.size w (w.alloc (.cells #[] 55)) := (Below.refl _ _).alloc (Nat.le_refl _) _
  have main : ∃ v1 w2, (Builtin.append_ #[35, 35] 35 #[.slice (some ⟨w.heap.size, 0, none⟩) 0 0, .slice (some a) xs.length c]).run Tryz.prog (w.alloc (.cells #[] 55)) = .ok v1 w2 ∧ Below w.heap.size w w2 ∧ ((xs = [] ∧ ∃ A, v1 = .slice A 0 0) ∨ xs ≠ [] ∧ Own tCell.rd 55 ok w2 w.heap.size v1 xs) := by
   by_cases hx : xs = []
   ·subst hx
    obtain ⟨ie, hie, _⟩ := Option.map_eq_some_iff.1 infoKC
    exact ⟨_, _, run_append_none Tryz.underlying35 hie _ _ _ 0 0 _ c (Nat.le_refl _), hB, .inl ⟨rfl, _, rfl⟩⟩
   ·obtain ⟨v1, w2, hr, ho, hg, hat⟩ := (Own.laid tCell.rd 55 ok w w.heap.size (Nat.le_refl _)).append (t := 35) Tryz.underlying35 infoKC rfl (by decide) (by decide) (some a) xs.length c (fun h => by cases h) (hC.move (fun k hk _ => hB.block k (hok k hk))) (fun k hk => ⟨hk, by simp only [Value.ownBlock]; intro he; injection he with he; have := hok k hk; omega⟩) (by simp; omega) (by simp) 35
    exact ⟨v1, w2, hr, hB.grown hg hB.size (fun k hk => by simp [Value.ownBlock] at hk; omega), .inr ⟨hx, by rw [List.nil_append] at ho; exact ho⟩⟩
  obtain ⟨v1, w2, hr, hres⟩ := main
  have H := Lib.hid hres
  clear hres hB hC h3 h1 h2 hl hok
  generalize xs.length = m at *
  go_enter Tryz.func86, Tryz.ntmps86
  go_wp2_with (at_builtin; refine wpList_append_eq rfl _ _ _ rfl _ _ rfl rfl hr ?_)
  go_ret
  exact ⟨_, rfl, H.out.1, H.out.2⟩
theorem cloneKC_fun (xs : List ECell) (hl : xs.length ≤ 1000) : AFunH Tryz.prog 86 [.c (.ro tCell xs)] [] (.c (.osl 0 4 xs.length)) [.ovec 55 tCell xs] [0] :=
 AFunH.ofOwn (t := tCell) (u := tCell) rfl (fun v w => enters_of Tryz.func86 (by decide) rfl _ _) (cloneKC_any xs hl)
theorem infoKH : (Tryz.prog.info? 57).map (fun i => (i.zero, i.size, i.bytes)) = some (some (Value.agg #[.slice none 0 0, .int .i64 0, .int .i64 0, .int .i64 0, .int .i64 0]), 5, 56) := by kernel_rfl
set_option maxRecDepth 100000 in
set_option maxHeartbeats 4000000 in
theorem cloneKH_any (xs : List EThread) (hl : xs.length ≤ 1000) (ok : Nat → Prop) (w : World) (v : Value) (hok : ∀ k, ok k → k < w.heap.size) (h : SlK tThread.rd ok w xs v) :
  Calls Tryz.prog 87 #[v] w fun e w' => ∃ v1, e = .returned v1 ∧ Below w.heap.size w w' ∧ ((xs = [] ∧ ∃ A, v1 = .slice A 0 0) ∨ xs ≠ [] ∧ Own tThread.rd 57 ok w' w.heap.size v1 xs) := by
 obtain ⟨A, c, hv, h1, h2, h3, hC⟩ := h
 injection hv with hv
 subst hv
 cases A with
 | none =>
  have hc : c = 0 := h3 rfl
  subst hc
  have hx : xs = [] := List.eq_nil_of_length_eq_zero (by omega)
  subst hx
  clear hC h1 h2 h3 hl
  have hq : ([] : List EThread).length = 0 := rfl
  rw [hq]
  have heq : ∀ w, (binOp .eql 37 (.slice none 0 0) (.slice none 0 0)).run Tryz.prog w = .ok (.bool true) w := fun w => run_eql_nil_nil w _ _ Tryz.underlying37
  go_enter Tryz.func87, Tryz.ntmps87
  go_wp2_with fail
  go_ret
  exact ⟨_, rfl, Below.refl _ _, (by first | exact ⟨none, rfl⟩ | exact .inl ⟨trivial, none, rfl⟩)⟩
 | some a =>
  have heq : ∀ w, (binOp .eql 37 (.slice (some a) xs.length c) (.slice none 0 0)).run Tryz.prog w = .ok (.bool false) w := fun w => run_eql_some_nil w _ _ _ _ _ Tryz.underlying37
  have hB : Below w.heap.size w (w.alloc (.cells #[] 57)) := (Below.refl _ _).alloc (Nat.le_refl _) _
  have main : ∃ v1 w2, (Builtin.append_ #[37, 37] 37 #[.slice (some ⟨w.heap.size, 0, none⟩) 0 0, .slice (some a) xs.length c]).run Tryz.prog (w.alloc (.cells #[] 57)) = .ok v1 w2 ∧ Below w.heap.size w w2 ∧ ((xs = [] ∧ ∃ A, v1 = .slice A 0 0) ∨ xs ≠ [] ∧ Own tThread.rd 57 ok w2 w.heap.size v1 xs) := by
   by_cases hx : xs = []
   ·subst hx
    obtain ⟨ie, hie, _⟩ := Option.map_eq_some_iff.1 infoKH
    exact ⟨_, _, run_append_none Tryz.underlying37 hie _ _ _ 0 0 _ c (Nat.le_refl _), hB, .inl ⟨rfl, _, rfl⟩⟩
   ·obtain ⟨v1, w2, hr, ho, hg, hat⟩ := (Own.laid tThread.rd 57 ok w w.heap.size (Nat.le_refl _)).append (t := 37) Tryz.underlying37 infoKH rfl (by decide) (by decide) (some a) xs.length c (fun h => by cases h) (hC.move (fun k hk _ => hB.block k (hok k hk))) (fun k hk => ⟨hk, by simp only [Value.ownBlock]; intro he; injection he with he; have := hok k hk; omega⟩) (by simp; omega) (by simp) 37
    exact ⟨v1, w2, hr, hB.grown hg hB.size (fun k hk => by simp [Value.ownBlock] at hk; omega), .inr ⟨hx, by rw [List.nil_append] at ho; exact ho⟩⟩
  obtain ⟨v1, w2, hr, hres⟩ := main
  have H := Lib.hid hres
  clear hres hB hC h3 h1 h2 hl hok
  generalize xs.length = m at *
  go_enter Tryz.func87, Tryz.ntmps87
  go_wp2_with (at_builtin; refine wpList_append_eq rfl _ _ _ rfl _ _ rfl rfl hr ?_)
  go_ret
  exact ⟨_, rfl, H.out.1, H.out.2⟩
theorem cloneKH_fun (xs : List EThread) (hl : xs.length ≤ 1000) : AFunH Tryz.prog 87 [.c (.ro tThread xs)] [] (.c (.osl 0 5 xs.length)) [.ovec 57 tThread xs] [0] :=
 AFunH.ofOwn (t := tThread) (u := tThread) rfl (fun v w => enters_of Tryz.func87 (by decide) rfl _ _) (cloneKH_any xs hl)
theorem infoKP : (Tryz.prog.info? 51).map (fun i => (i.zero, i.size, i.bytes)) = some (some (Value.agg #[.int .i64 0, .int .i64 0]), 2, 16) := by kernel_rfl
set_option maxRecDepth 100000 in
set_option maxHeartbeats 4000000 in
theorem cloneKP_any (xs : List EVal) (hl : xs.length ≤ 1000) (ok : Nat → Prop) (w : World) (v : Value) (hok : ∀ k, ok k → k < w.heap.size) (h : SlK tVal.rd ok w xs v) :
  Calls Tryz.prog 88 #[v] w fun e w' => ∃ v1, e = .returned v1 ∧ Below w.heap.size w w' ∧ ((xs = [] ∧ ∃ A, v1 = .slice A 0 0) ∨ xs ≠ [] ∧ Own tVal.rd 51 ok w' w.heap.size v1 xs) := by
 obtain ⟨A, c, hv, h1, h2, h3, hC⟩ := h
 injection hv with hv
 subst hv
 cases A with
 | none =>
  have hc : c = 0 := h3 rfl
  subst hc
  have hx : xs = [] := List.eq_nil_of_length_eq_zero (by omega)
  subst hx
  clear hC h1 h2 h3 hl
  have hq : ([] : List EVal).length = 0 := rfl
  rw [hq]
  have heq : ∀ w, (binOp .eql 36 (.slice none 0 0) (.slice none 0 0)).run Tryz.prog w = .ok (.bool true) w := fun w => run_eql_nil_nil w _ _ Tryz.underlying36
  go_enter Tryz.func88, Tryz.ntmps88
  go_wp2_with fail
  go_ret
  exact ⟨_, rfl, Below.refl _ _, (by first | exact ⟨none, rfl⟩ | exact .inl ⟨trivial, none, rfl⟩)⟩
 | some a =>
  have heq : ∀ w, (binOp .eql 36 (.slice (some a) xs.length c) (.slice none 0 0)).run Tryz.prog w = .ok (.bool false) w := fun w => run_eql_some_nil w _ _ _ _ _ Tryz.underlying36
  have hB : Below w.heap.size w (w.alloc (.cells #[] 51)) := (Below.refl _ _).alloc (Nat.le_refl _) _
  have main : ∃ v1 w2, (Builtin.append_ #[36, 36] 36 #[.slice (some ⟨w.heap.size, 0, none⟩) 0 0, .slice (some a) xs.length c]).run Tryz.prog (w.alloc (.cells #[] 51)) = .ok v1 w2 ∧ Below w.heap.size w w2 ∧ ((xs = [] ∧ ∃ A, v1 = .slice A 0 0) ∨ xs ≠ [] ∧ Own tVal.rd 51 ok w2 w.heap.size v1 xs) := by
   by_cases hx : xs = []
   ·subst hx
    obtain ⟨ie, hie, _⟩ := Option.map_eq_some_iff.1 infoKP
    exact ⟨_, _, run_append_none Tryz.underlying36 hie _ _ _ 0 0 _ c (Nat.le_refl _), hB, .inl ⟨rfl, _, rfl⟩⟩
   ·obtain ⟨v1, w2, hr, ho, hg, hat⟩ := (Own.laid tVal.rd 51 ok w w.heap.size (Nat.le_refl _)).append (t := 36) Tryz.underlying36 infoKP rfl (by decide) (by decide) (some a) xs.length c (fun h => by cases h) (hC.move (fun k hk _ => hB.block k (hok k hk))) (fun k hk => ⟨hk, by simp only [Value.ownBlock]; intro he; injection he with he; have := hok k hk; omega⟩) (by simp; omega) (by simp) 36
    exact ⟨v1, w2, hr, hB.grown hg hB.size (fun k hk => by simp [Value.ownBlock] at hk; omega), .inr ⟨hx, by rw [List.nil_append] at ho; exact ho⟩⟩
  obtain ⟨v1, w2, hr, hres⟩ := main
  have H := Lib.hid hres
  clear hres hB hC h3 h1 h2 hl hok
  generalize xs.length = m at *
  go_enter Tryz.func88, Tryz.ntmps88
  go_wp2_with (at_builtin; refine wpList_append_eq rfl _ _ _ rfl _ _ rfl rfl hr ?_)
  go_ret
  exact ⟨_, rfl, H.out.1, H.out.2⟩
theorem cloneKP_fun (xs : List EVal) (hl : xs.length ≤ 1000) : AFunH Tryz.prog 88 [.c (.ro tVal xs)] [] (.c (.osl 0 2 xs.length)) [.ovec 51 tVal xs] [0] :=
 AFunH.ofOwn (t := tVal) (u := tVal) rfl (fun v w => enters_of Tryz.func88 (by decide) rfl _ _) (cloneKP_any xs hl)
theorem infoKT : (Tryz.prog.info? 9).map (fun i => (i.zero, i.size, i.bytes)) = some (some (Value.string ByteArray.empty), 1, 16) := by kernel_rfl
set_option maxRecDepth 100000 in
set_option maxHeartbeats 4000000 in
theorem cloneKT_any (xs : List ByteArray) (hl : xs.length ≤ 1000) (ok : Nat → Prop) (w : World) (v : Value) (hok : ∀ k, ok k → k < w.heap.size) (h : SlK Ty.str.rd ok w xs v) :
  Calls Tryz.prog 89 #[v] w fun e w' => ∃ v1, e = .returned v1 ∧ Below w.heap.size w w' ∧ ((xs = [] ∧ ∃ A, v1 = .slice A 0 0) ∨ xs ≠ [] ∧ Own Ty.str.rd 9 ok w' w.heap.size v1 xs) := by
 obtain ⟨A, c, hv, h1, h2, h3, hC⟩ := h
 injection hv with hv
 subst hv
 cases A with
 | none =>
  have hc : c = 0 := h3 rfl
  subst hc
  have hx : xs = [] := List.eq_nil_of_length_eq_zero (by omega)
  subst hx
  clear hC h1 h2 h3 hl
  have hq : ([] : List ByteArray).length = 0 := rfl
  rw [hq]
  have heq : ∀ w, (binOp .eql 24 (.slice none 0 0) (.slice none 0 0)).run Tryz.prog w = .ok (.bool true) w := fun w => run_eql_nil_nil w _ _ Tryz.underlying24
  go_enter Tryz.func89, Tryz.ntmps89
  go_wp2_with fail
  go_ret
  exact ⟨_, rfl, Below.refl _ _, (by first | exact ⟨none, rfl⟩ | exact .inl ⟨trivial, none, rfl⟩)⟩
 | some a =>
  have heq : ∀ w, (binOp .eql 24 (.slice (some a) xs.length c) (.slice none 0 0)).run Tryz.prog w = .ok (.bool false) w := fun w => run_eql_some_nil w _ _ _ _ _ Tryz.underlying24
  have hB : Below w.heap.size w (w.alloc (.cells #[] 9)) := (Below.refl _ _).alloc (Nat.le_refl _) _
  have main : ∃ v1 w2, (Builtin.append_ #[24, 24] 24 #[.slice (some ⟨w.heap.size, 0, none⟩) 0 0, .slice (some a) xs.length c]).run Tryz.prog (w.alloc (.cells #[] 9)) = .ok v1 w2 ∧ Below w.heap.size w w2 ∧ ((xs = [] ∧ ∃ A, v1 = .slice A 0 0) ∨ xs ≠ [] ∧ Own Ty.str.rd 9 ok w2 w.heap.size v1 xs) := by
   by_cases hx : xs = []
   ·subst hx
    obtain ⟨ie, hie, _⟩ := Option.map_eq_some_iff.1 infoKT
    exact ⟨_, _, run_append_none Tryz.underlying24 hie _ _ _ 0 0 _ c (Nat.le_refl _), hB, .inl ⟨rfl, _, rfl⟩⟩
   ·obtain ⟨v1, w2, hr, ho, hg, hat⟩ := (Own.laid Ty.str.rd 9 ok w w.heap.size (Nat.le_refl _)).append (t := 24) Tryz.underlying24 infoKT rfl (by decide) (by decide) (some a) xs.length c (fun h => by cases h) (hC.move (fun k hk _ => hB.block k (hok k hk))) (fun k hk => ⟨hk, by simp only [Value.ownBlock]; intro he; injection he with he; have := hok k hk; omega⟩) (by simp; omega) (by simp) 24
    exact ⟨v1, w2, hr, hB.grown hg hB.size (fun k hk => by simp [Value.ownBlock] at hk; omega), .inr ⟨hx, by rw [List.nil_append] at ho; exact ho⟩⟩
  obtain ⟨v1, w2, hr, hres⟩ := main
  have H := Lib.hid hres
  clear hres hB hC h3 h1 h2 hl hok
  generalize xs.length = m at *
  go_enter Tryz.func89, Tryz.ntmps89
  go_wp2_with (at_builtin; refine wpList_append_eq rfl _ _ _ rfl _ _ rfl rfl hr ?_)
  go_ret
  exact ⟨_, rfl, H.out.1, H.out.2⟩
theorem cloneKT_fun (xs : List ByteArray) (hl : xs.length ≤ 1000) : AFunH Tryz.prog 89 [.c (.ro Ty.str xs)] [] (.c (.osl 0 1 xs.length)) [.ovec 9 Ty.str xs] [0] :=
 AFunH.ofOwn (t := Ty.str) (u := Ty.str) rfl (fun v w => enters_of Tryz.func89 (by decide) rfl _ _) (cloneKT_any xs hl)
theorem infoKE : (Tryz.prog.info? 112).map (fun i => (i.zero, i.size, i.bytes)) = some (some (Value.agg #[.int .i64 0, .int .i64 0, .int .i64 0]), 3, 24) := by kernel_rfl
set_option maxRecDepth 100000 in
set_option maxHeartbeats 4000000 in
theorem cloneKE_any (xs : List EEnd) (hl : xs.length ≤ 1000) (ok : Nat → Prop) (w : World) (v : Value) (hok : ∀ k, ok k → k < w.heap.size) (h : SlK tEnd.rd ok w xs v) :
  Calls Tryz.prog 90 #[v] w fun e w' => ∃ v1, e = .returned v1 ∧ Below w.heap.size w w' ∧ ((xs = [] ∧ ∃ A, v1 = .slice A 0 0) ∨ xs ≠ [] ∧ Own tEnd.rd 112 ok w' w.heap.size v1 xs) := by
 obtain ⟨A, c, hv, h1, h2, h3, hC⟩ := h
 injection hv with hv
 subst hv
 cases A with
 | none =>
  have hc : c = 0 := h3 rfl
  subst hc
  have hx : xs = [] := List.eq_nil_of_length_eq_zero (by omega)
  subst hx
  clear hC h1 h2 h3 hl
  have hq : ([] : List EEnd).length = 0 := rfl
  rw [hq]
  have heq : ∀ w, (binOp .eql 38 (.slice none 0 0) (.slice none 0 0)).run Tryz.prog w = .ok (.bool true) w := fun w => run_eql_nil_nil w _ _ Tryz.underlying38
  go_enter Tryz.func90, Tryz.ntmps90
  go_wp2_with fail
  go_ret
  exact ⟨_, rfl, Below.refl _ _, (by first | exact ⟨none, rfl⟩ | exact .inl ⟨trivial, none, rfl⟩)⟩
 | some a =>
  have heq : ∀ w, (binOp .eql 38 (.slice (some a) xs.length c) (.slice none 0 0)).run Tryz.prog w = .ok (.bool false) w := fun w => run_eql_some_nil w _ _ _ _ _ Tryz.underlying38
  have hB : Below w.heap.size w (w.alloc (.cells #[] 112)) := (Below.refl _ _).alloc (Nat.le_refl _) _
  have main : ∃ v1 w2, (Builtin.append_ #[38, 38] 38 #[.slice (some ⟨w.heap.size, 0, none⟩) 0 0, .slice (some a) xs.length c]).run Tryz.prog (w.alloc (.cells #[] 112)) = .ok v1 w2 ∧ Below w.heap.size w w2 ∧ ((xs = [] ∧ ∃ A, v1 = .slice A 0 0) ∨ xs ≠ [] ∧ Own tEnd.rd 112 ok w2 w.heap.size v1 xs) := by
   by_cases hx : xs = []
   ·subst hx
    obtain ⟨ie, hie, _⟩ := Option.map_eq_some_iff.1 infoKE
    exact ⟨_, _, run_append_none Tryz.underlying38 hie _ _ _ 0 0 _ c (Nat.le_refl _), hB, .inl ⟨rfl, _, rfl⟩⟩
   ·obtain ⟨v1, w2, hr, ho, hg, hat⟩ := (Own.laid tEnd.rd 112 ok w w.heap.size (Nat.le_refl _)).append (t := 38) Tryz.underlying38 infoKE rfl (by decide) (by decide) (some a) xs.length c (fun h => by cases h) (hC.move (fun k hk _ => hB.block k (hok k hk))) (fun k hk => ⟨hk, by simp only [Value.ownBlock]; intro he; injection he with he; have := hok k hk; omega⟩) (by simp; omega) (by simp) 38
    exact ⟨v1, w2, hr, hB.grown hg hB.size (fun k hk => by simp [Value.ownBlock] at hk; omega), .inr ⟨hx, by rw [List.nil_append] at ho; exact ho⟩⟩
  obtain ⟨v1, w2, hr, hres⟩ := main
  have H := Lib.hid hres
  clear hres hB hC h3 h1 h2 hl hok
  generalize xs.length = m at *
  go_enter Tryz.func90, Tryz.ntmps90
  go_wp2_with (at_builtin; refine wpList_append_eq rfl _ _ _ rfl _ _ rfl rfl hr ?_)
  go_ret
  exact ⟨_, rfl, H.out.1, H.out.2⟩
theorem cloneKE_fun (xs : List EEnd) (hl : xs.length ≤ 1000) : AFunH Tryz.prog 90 [.c (.ro tEnd xs)] [] (.c (.osl 0 3 xs.length)) [.ovec 112 tEnd xs] [0] :=
 AFunH.ofOwn (t := tEnd) (u := tEnd) rfl (fun v w => enters_of Tryz.func90 (by decide) rfl _ _) (cloneKE_any xs hl)
end Go.Proofs.YtkonkblfckhcbaaGreatDoor
namespace Go.Proofs.YtkonkblfckhcbaaGreatDoor
set_option maxHeartbeats 4000000
set_option linter.unusedVariables false
set_option linter.unusedSimpArgs false
set_option maxRecDepth 100000
abbrev skVal : Sk := .pair (.int .i64) (.int .i64)
abbrev skFrame : Sk := .pair (.int .i64) (.pair (.int .i64) (.pair (.int .i64) (.pair (.int .i64) (.pair skVal (.pair (.slice 48 skVal) (.slice 101 skVal))))))
theorem pairEta {α β : Type} (p : α × β) : (p.1, p.2) = p := rfl
theorem setSelf {α : Type} {l : List α} {k : Nat} {d : α} : l.set k (l.getD k d) = l := by
 apply List.ext_getElem?
 intro i
 rw [List.getElem?_set]
 split
 ·rename_i h; subst h
  split
  ·rename_i h; simp [List.getD, h]
  ·rename_i h; simp at h; simp [h]
 ·rfl
noncomputable def ocSa : Orc where
 pure := fun f args => match f, args with
  | _, _ => none
 heap := fun f args H => match f, args with
  | 82, [a0] => (match dA (.slice tVal) a0 with
    | some x0 => hres [] H (.c (.osl 0 2 x0.length)) [.ovec 48 tVal x0]
    | _ => none)
  | _, _ => none
def own1_lv : LV := ⟨([]), []⟩
noncomputable def own1_T (l : List EVal) : Tree :=
 .callH 82 [.c (.ro tVal l)] [] (.c (.osl 0 2 l.length)) [.ovec 48 tVal l] [0] <|
 .ret (.c (.osl 0 2 l.length)) [.ovec 48 tVal l]
theorem own1_fun (l : List EVal) (hl : l.length ≤ 1000) : AFunH Tryz.prog 81 [.c (.ro tVal l)] [] (.c (.osl 0 2 l.length)) [.ovec 48 tVal l] (List.range 1) :=
 AFunH.ofLO ocSa own1_lv 3000 Tryz.func81 mixed rfl (by decide) (Nat.le_of_ble_eq_true rfl) rfl rfl (Nat.le_of_ble_eq_true rfl) (own1_T l) (by kernel_rfl) fun hF => by
  unfold own1_T
  refine g_callH (AFunH.frameB [] (cloneKV_fun l (by assumption)) rfl rfl rfl rfl rfl rfl rfl) ?_
  refine g_abs (H' := [.ovec 48 tVal l]) (.refl _) ?_
  exact g_endO [0] (kk rfl) (by decide) (leAV.refl _) ⟨leB.refl _, trivial⟩

noncomputable def ocSb : Orc where
 pure := fun f args => match f, args with
  | _, _ => none
 heap := fun f args H => match f, args with
  | 81, [a0] => (match dA (.slice tVal) a0 with
    | some x0 => hres [] H (.c (.osl 0 2 x0.length)) [.ovec 48 tVal x0]
    | _ => none)
  | 84, [a0] => (match dA (.slice tFrame) a0 with
    | some x0 => hres [] H (.c (.osl 0 8 x0.length)) [.ovec 61 tFrame x0]
    | _ => none)
  | 85, [a0] => (match dA (.slice tVal) a0 with
    | some x0 => hres [] H (.c (.osl 0 2 x0.length)) [.ovec 101 tVal x0]
    | _ => none)
  | _, _ => none
def own2_lv : LV := ⟨(false :: true :: F2 (true :: F4 (true :: true :: true :: F16 (F4 (false :: []))))), []⟩
noncomputable def own2_T (l : List EFrame) : Tree :=
 .callH 84 [.c (.ro tFrame l)] [.cells 166 [.fn0 81]] (.c (.osl 1 8 l.length)) [.cells 166 [.fn0 81], .ovec 61 tFrame l] [1] <|
 .stop (lp (bodyOf Tryz.f83) 0) (.junk :: .c (.ptr 0 0 0 0) :: J2 (.c (.osl 1 8 l.length) :: J4 (.c (.osl 1 8 l.length) :: .c (.int .i64 ((l.length : Nat) : Int)) :: .c (.int .i64 0) :: J16 (J4 (.junk :: []))))) [.cells 166 [.fn0 81], .ovec 61 tFrame l]
noncomputable def own2_l0_R (l : List EFrame) (k : Nat) (fs : List EFrame) : Tree :=
 .ite (decide (((k : Nat) : Int) < ((l.length : Nat) : Int)))
 (.need ((0 : Int) ≤ ((k : Nat) : Int) ∧ (((k : Nat) : Int) : Int) < ((l.length : Nat) : Int)) <|
  .need (k < fs.length ∧ k ≤ k) <|
  .callH 81 [.c (.ro tVal (fs.getD k tFrame.dflt).2.2.2.2.2.1)] [.cells 166 [.fn0 81], .nest 61 skFrame fs (some (k, 0)) 0 [], .cells 61 (Ty.enc tFrame (fs.getD k tFrame.dflt))] (.c (.osl 3 2 (fs.getD k tFrame.dflt).2.2.2.2.2.1.length)) [.cells 166 [.fn0 81], .nest 61 skFrame fs (some (k, 0)) 0 [], .cells 61 (Ty.enc tFrame (fs.getD k tFrame.dflt)), .ovec 48 tVal (fs.getD k tFrame.dflt).2.2.2.2.2.1] [3] <|
  .callH 85 [.c (.ro tVal (fs.getD k tFrame.dflt).2.2.2.2.2.2)] [.cells 166 [.fn0 81], .nest 61 skFrame fs (some (k, 0)) 0 [], .cells 61 (Ty.enc tFrame (fs.getD k tFrame.dflt)), .ovec 48 tVal (fs.getD k tFrame.dflt).2.2.2.2.2.1] (.c (.osl 4 2 (fs.getD k tFrame.dflt).2.2.2.2.2.2.length)) [.cells 166 [.fn0 81], .nest 61 skFrame fs (some (k, 0)) 0 [], .cells 61 (Ty.enc tFrame (fs.getD k tFrame.dflt)), .ovec 48 tVal (fs.getD k tFrame.dflt).2.2.2.2.2.1, .ovec 101 tVal (fs.getD k tFrame.dflt).2.2.2.2.2.2] [4] <|
  .need ((0 : Int) ≤ ((k : Nat) : Int) ∧ (((k : Nat) : Int) : Int) < ((l.length : Nat) : Int)) <|
  .need (k < fs.length ∧ (List.isEmpty ([] : List (Nat × CV)) = true ∨ k = 0)) <|
  .need ((0 : Int) ≤ ((k : Nat) : Int) ∧ (((k : Nat) : Int) : Int) < ((l.length : Nat) : Int)) <|
  .need (k < (fs.set k (fs.getD k tFrame.dflt)).length ∧ (List.isEmpty ([(6, .osl 3 2 (fs.getD k tFrame.dflt).2.2.2.2.2.1.length)] : List (Nat × CV)) = true ∨ k = k)) <|
  .need (inR .i64 (((k : Nat) : Int) + 1)) <|
  .stop (lp (bodyOf Tryz.f83) 0) (.junk :: .c (.ptr 0 0 0 0) :: J2 (.c (.osl 1 8 l.length) :: J4 (.c (.osl 1 8 l.length) :: .c (.int .i64 ((l.length : Nat) : Int)) :: .c (.int .i64 (((k : Nat) : Int) + 1)) :: J16 (J4 (.junk :: []))))) [.cells 166 [.fn0 81], .nest 61 skFrame ((fs.set k (fs.getD k tFrame.dflt)).set k ((fs.set k (fs.getD k tFrame.dflt)).getD k tFrame.dflt)) (some (k, 0)) k [(6, .osl 3 2 (fs.getD k tFrame.dflt).2.2.2.2.2.1.length), (7, .osl 4 2 (fs.getD k tFrame.dflt).2.2.2.2.2.2.length)], .cells 61 (Ty.enc tFrame (fs.getD k tFrame.dflt)), .ovec 48 tVal (fs.getD k tFrame.dflt).2.2.2.2.2.1, .ovec 101 tVal (fs.getD k tFrame.dflt).2.2.2.2.2.2])
 (.ret (.c (.osl 1 8 l.length)) [.cells 166 [.fn0 81], .nest 61 skFrame fs (some (k, 0)) 0 []])
theorem own2_l0 (l : List EFrame) (k : Nat) (fs : List EFrame) (hl : l.length ≤ 1000) (hl2 : ∀ f ∈ l, f.2.2.2.2.2.1.length ≤ 1000 ∧ f.2.2.2.2.2.2.length ≤ 1000) (hfs : fs = l) (hk : k ≤ l.length) : RunN 1 Tryz.prog 83 (absQ (finO Tryz.prog 1 (.c (.osl 1 8 l.length)) [.cells 166 [.fn0 81], .nest 61 skFrame l none 0 []])) (lp (bodyOf Tryz.f83) 0) (.junk :: .c (.ptr 0 0 0 0) :: J2 (.c (.osl 1 8 l.length) :: J4 (.c (.osl 1 8 l.length) :: .c (.int .i64 ((l.length : Nat) : Int)) :: .c (.int .i64 ((k : Nat) : Int)) :: J16 (J4 (.junk :: []))))) [.cells 166 [.fn0 81], .nest 61 skFrame fs (some (k, 0)) 0 []] :=
 Run.roundA ocSb own2_lv 3000 Tryz.func83 mixed (own2_l0_R l k fs) (by kernel_rfl) (by
  unfold own2_l0_R
  have hlen : fs.length = l.length := by rw [hfs]
  have hl0 := hl2
  rw [← hfs] at hl2
  repeat' first
  | with_reducible refine g_iteD (fun h => ?_) (fun h => ?_)
  | refine g_need (by first | (omega) | (simp only [List.length_set, List.isEmpty_nil, List.isEmpty_cons, true_or, or_true, and_true]; omega) | (rw [i64_iff]; omega)) ?_
  | refine g_callH (AFunH.frameB [] (own1_fun (fs.getD k tFrame.dflt).2.2.2.2.2.1 (hl2 _ (getD_mem (α := EFrame) (Ty.dflt tFrame) (by omega))).1) rfl rfl rfl rfl rfl rfl rfl) ?_
  | refine g_callH (AFunH.frameB [] (cloneKY_fun (fs.getD k tFrame.dflt).2.2.2.2.2.2 (hl2 _ (getD_mem (α := EFrame) (Ty.dflt tFrame) (by omega))).2) rfl rfl rfl rfl rfl rfl rfl) ?_
  | (refine g_stop (RunN.abs (H' := [.cells 166 [.fn0 81], .nest 61 skFrame ((((fs.set k (fs.getD k tFrame.dflt)).set k ((fs.set k (fs.getD k tFrame.dflt)).getD k tFrame.dflt)).set k ((((fs.set k (fs.getD k tFrame.dflt)).set k ((fs.set k (fs.getD k tFrame.dflt)).getD k tFrame.dflt)).getD k tFrame.dflt).1, ((((fs.set k (fs.getD k tFrame.dflt)).set k ((fs.set k (fs.getD k tFrame.dflt)).getD k tFrame.dflt)).getD k tFrame.dflt).2.1, ((((fs.set k (fs.getD k tFrame.dflt)).set k ((fs.set k (fs.getD k tFrame.dflt)).getD k tFrame.dflt)).getD k tFrame.dflt).2.2.1, ((((fs.set k (fs.getD k tFrame.dflt)).set k ((fs.set k (fs.getD k tFrame.dflt)).getD k tFrame.dflt)).getD k tFrame.dflt).2.2.2.1, ((((fs.set k (fs.getD k tFrame.dflt)).set k ((fs.set k (fs.getD k tFrame.dflt)).getD k tFrame.dflt)).getD k tFrame.dflt).2.2.2.2.1, ((fs.getD k tFrame.dflt).2.2.2.2.2.1, (((fs.set k (fs.getD k tFrame.dflt)).set k ((fs.set k (fs.getD k tFrame.dflt)).getD k tFrame.dflt)).getD k tFrame.dflt).2.2.2.2.2.2))))))).set k (((((fs.set k (fs.getD k tFrame.dflt)).set k ((fs.set k (fs.getD k tFrame.dflt)).getD k tFrame.dflt)).set k ((((fs.set k (fs.getD k tFrame.dflt)).set k ((fs.set k (fs.getD k tFrame.dflt)).getD k tFrame.dflt)).getD k tFrame.dflt).1, ((((fs.set k (fs.getD k tFrame.dflt)).set k ((fs.set k (fs.getD k tFrame.dflt)).getD k tFrame.dflt)).getD k tFrame.dflt).2.1, ((((fs.set k (fs.getD k tFrame.dflt)).set k ((fs.set k (fs.getD k tFrame.dflt)).getD k tFrame.dflt)).getD k tFrame.dflt).2.2.1, ((((fs.set k (fs.getD k tFrame.dflt)).set k ((fs.set k (fs.getD k tFrame.dflt)).getD k tFrame.dflt)).getD k tFrame.dflt).2.2.2.1, ((((fs.set k (fs.getD k tFrame.dflt)).set k ((fs.set k (fs.getD k tFrame.dflt)).getD k tFrame.dflt)).getD k tFrame.dflt).2.2.2.2.1, ((fs.getD k tFrame.dflt).2.2.2.2.2.1, (((fs.set k (fs.getD k tFrame.dflt)).set k ((fs.set k (fs.getD k tFrame.dflt)).getD k tFrame.dflt)).getD k tFrame.dflt).2.2.2.2.2.2))))))).getD k tFrame.dflt).1, (((((fs.set k (fs.getD k tFrame.dflt)).set k ((fs.set k (fs.getD k tFrame.dflt)).getD k tFrame.dflt)).set k ((((fs.set k (fs.getD k tFrame.dflt)).set k ((fs.set k (fs.getD k tFrame.dflt)).getD k tFrame.dflt)).getD k tFrame.dflt).1, ((((fs.set k (fs.getD k tFrame.dflt)).set k ((fs.set k (fs.getD k tFrame.dflt)).getD k tFrame.dflt)).getD k tFrame.dflt).2.1, ((((fs.set k (fs.getD k tFrame.dflt)).set k ((fs.set k (fs.getD k tFrame.dflt)).getD k tFrame.dflt)).getD k tFrame.dflt).2.2.1, ((((fs.set k (fs.getD k tFrame.dflt)).set k ((fs.set k (fs.getD k tFrame.dflt)).getD k tFrame.dflt)).getD k tFrame.dflt).2.2.2.1, ((((fs.set k (fs.getD k tFrame.dflt)).set k ((fs.set k (fs.getD k tFrame.dflt)).getD k tFrame.dflt)).getD k tFrame.dflt).2.2.2.2.1, ((fs.getD k tFrame.dflt).2.2.2.2.2.1, (((fs.set k (fs.getD k tFrame.dflt)).set k ((fs.set k (fs.getD k tFrame.dflt)).getD k tFrame.dflt)).getD k tFrame.dflt).2.2.2.2.2.2))))))).getD k tFrame.dflt).2.1, (((((fs.set k (fs.getD k tFrame.dflt)).set k ((fs.set k (fs.getD k tFrame.dflt)).getD k tFrame.dflt)).set k ((((fs.set k (fs.getD k tFrame.dflt)).set k ((fs.set k (fs.getD k tFrame.dflt)).getD k tFrame.dflt)).getD k tFrame.dflt).1, ((((fs.set k (fs.getD k tFrame.dflt)).set k ((fs.set k (fs.getD k tFrame.dflt)).getD k tFrame.dflt)).getD k tFrame.dflt).2.1, ((((fs.set k (fs.getD k tFrame.dflt)).set k ((fs.set k (fs.getD k tFrame.dflt)).getD k tFrame.dflt)).getD k tFrame.dflt).2.2.1, ((((fs.set k (fs.getD k tFrame.dflt)).set k ((fs.set k (fs.getD k tFrame.dflt)).getD k tFrame.dflt)).getD k tFrame.dflt).2.2.2.1, ((((fs.set k (fs.getD k tFrame.dflt)).set k ((fs.set k (fs.getD k tFrame.dflt)).getD k tFrame.dflt)).getD k tFrame.dflt).2.2.2.2.1, ((fs.getD k tFrame.dflt).2.2.2.2.2.1, (((fs.set k (fs.getD k tFrame.dflt)).set k ((fs.set k (fs.getD k tFrame.dflt)).getD k tFrame.dflt)).getD k tFrame.dflt).2.2.2.2.2.2))))))).getD k tFrame.dflt).2.2.1, (((((fs.set k (fs.getD k tFrame.dflt)).set k ((fs.set k (fs.getD k tFrame.dflt)).getD k tFrame.dflt)).set k ((((fs.set k (fs.getD k tFrame.dflt)).set k ((fs.set k (fs.getD k tFrame.dflt)).getD k tFrame.dflt)).getD k tFrame.dflt).1, ((((fs.set k (fs.getD k tFrame.dflt)).set k ((fs.set k (fs.getD k tFrame.dflt)).getD k tFrame.dflt)).getD k tFrame.dflt).2.1, ((((fs.set k (fs.getD k tFrame.dflt)).set k ((fs.set k (fs.getD k tFrame.dflt)).getD k tFrame.dflt)).getD k tFrame.dflt).2.2.1, ((((fs.set k (fs.getD k tFrame.dflt)).set k ((fs.set k (fs.getD k tFrame.dflt)).getD k tFrame.dflt)).getD k tFrame.dflt).2.2.2.1, ((((fs.set k (fs.getD k tFrame.dflt)).set k ((fs.set k (fs.getD k tFrame.dflt)).getD k tFrame.dflt)).getD k tFrame.dflt).2.2.2.2.1, ((fs.getD k tFrame.dflt).2.2.2.2.2.1, (((fs.set k (fs.getD k tFrame.dflt)).set k ((fs.set k (fs.getD k tFrame.dflt)).getD k tFrame.dflt)).getD k tFrame.dflt).2.2.2.2.2.2))))))).getD k tFrame.dflt).2.2.2.1, (((((fs.set k (fs.getD k tFrame.dflt)).set k ((fs.set k (fs.getD k tFrame.dflt)).getD k tFrame.dflt)).set k ((((fs.set k (fs.getD k tFrame.dflt)).set k ((fs.set k (fs.getD k tFrame.dflt)).getD k tFrame.dflt)).getD k tFrame.dflt).1, ((((fs.set k (fs.getD k tFrame.dflt)).set k ((fs.set k (fs.getD k tFrame.dflt)).getD k tFrame.dflt)).getD k tFrame.dflt).2.1, ((((fs.set k (fs.getD k tFrame.dflt)).set k ((fs.set k (fs.getD k tFrame.dflt)).getD k tFrame.dflt)).getD k tFrame.dflt).2.2.1, ((((fs.set k (fs.getD k tFrame.dflt)).set k ((fs.set k (fs.getD k tFrame.dflt)).getD k tFrame.dflt)).getD k tFrame.dflt).2.2.2.1, ((((fs.set k (fs.getD k tFrame.dflt)).set k ((fs.set k (fs.getD k tFrame.dflt)).getD k tFrame.dflt)).getD k tFrame.dflt).2.2.2.2.1, ((fs.getD k tFrame.dflt).2.2.2.2.2.1, (((fs.set k (fs.getD k tFrame.dflt)).set k ((fs.set k (fs.getD k tFrame.dflt)).getD k tFrame.dflt)).getD k tFrame.dflt).2.2.2.2.2.2))))))).getD k tFrame.dflt).2.2.2.2.1, (((((fs.set k (fs.getD k tFrame.dflt)).set k ((fs.set k (fs.getD k tFrame.dflt)).getD k tFrame.dflt)).set k ((((fs.set k (fs.getD k tFrame.dflt)).set k ((fs.set k (fs.getD k tFrame.dflt)).getD k tFrame.dflt)).getD k tFrame.dflt).1, ((((fs.set k (fs.getD k tFrame.dflt)).set k ((fs.set k (fs.getD k tFrame.dflt)).getD k tFrame.dflt)).getD k tFrame.dflt).2.1, ((((fs.set k (fs.getD k tFrame.dflt)).set k ((fs.set k (fs.getD k tFrame.dflt)).getD k tFrame.dflt)).getD k tFrame.dflt).2.2.1, ((((fs.set k (fs.getD k tFrame.dflt)).set k ((fs.set k (fs.getD k tFrame.dflt)).getD k tFrame.dflt)).getD k tFrame.dflt).2.2.2.1, ((((fs.set k (fs.getD k tFrame.dflt)).set k ((fs.set k (fs.getD k tFrame.dflt)).getD k tFrame.dflt)).getD k tFrame.dflt).2.2.2.2.1, ((fs.getD k tFrame.dflt).2.2.2.2.2.1, (((fs.set k (fs.getD k tFrame.dflt)).set k ((fs.set k (fs.getD k tFrame.dflt)).getD k tFrame.dflt)).getD k tFrame.dflt).2.2.2.2.2.2))))))).getD k tFrame.dflt).2.2.2.2.2.1, (fs.getD k tFrame.dflt).2.2.2.2.2.2))))))) (some ((k + 1), 0)) k [], .cells 61 (Ty.enc tFrame (fs.getD k tFrame.dflt)), .dead, .dead]) (.step (.mk 1 3 6 _ _ _ _ _ skVal _ _ _ _ _ _ _ rfl rfl (.inl ⟨rfl, rfl⟩) (by decide) rfl rfl (rfl) (by simp; omega) rfl (.inr ⟨0, rfl, by decide, rfl, .inl rfl⟩)) (.step (.mk 1 4 7 _ _ _ _ _ skVal _ _ _ _ _ _ _ rfl rfl (.inl ⟨rfl, rfl⟩) (by decide) rfl rfl (rfl) (by simp; omega) rfl (.inr ⟨7, rfl, by decide, rfl, .inr ⟨rfl, rfl⟩⟩)) (.refl _))) (RunN.keep [0, 1] (false :: true :: F2 (true :: F4 (true :: true :: true :: F16 (F4 (false :: []))))) (kk rfl) (by decide) rfl rfl ?_)); refine RunN.less (env' := (.junk :: .c (.ptr 0 0 0 0) :: J2 (.c (.osl 1 8 l.length) :: J4 (.c (.osl 1 8 l.length) :: .c (.int .i64 ((l.length : Nat) : Int)) :: .c (.int .i64 (((k + 1) : Nat) : Int)) :: J16 (J4 (.junk :: [])))))) (H' := [.cells 166 [.fn0 81], .nest 61 skFrame ((((fs.set k (fs.getD k tFrame.dflt)).set k ((fs.set k (fs.getD k tFrame.dflt)).getD k tFrame.dflt)).set k ((((fs.set k (fs.getD k tFrame.dflt)).set k ((fs.set k (fs.getD k tFrame.dflt)).getD k tFrame.dflt)).getD k tFrame.dflt).1, ((((fs.set k (fs.getD k tFrame.dflt)).set k ((fs.set k (fs.getD k tFrame.dflt)).getD k tFrame.dflt)).getD k tFrame.dflt).2.1, ((((fs.set k (fs.getD k tFrame.dflt)).set k ((fs.set k (fs.getD k tFrame.dflt)).getD k tFrame.dflt)).getD k tFrame.dflt).2.2.1, ((((fs.set k (fs.getD k tFrame.dflt)).set k ((fs.set k (fs.getD k tFrame.dflt)).getD k tFrame.dflt)).getD k tFrame.dflt).2.2.2.1, ((((fs.set k (fs.getD k tFrame.dflt)).set k ((fs.set k (fs.getD k tFrame.dflt)).getD k tFrame.dflt)).getD k tFrame.dflt).2.2.2.2.1, ((fs.getD k tFrame.dflt).2.2.2.2.2.1, (((fs.set k (fs.getD k tFrame.dflt)).set k ((fs.set k (fs.getD k tFrame.dflt)).getD k tFrame.dflt)).getD k tFrame.dflt).2.2.2.2.2.2))))))).set k (((((fs.set k (fs.getD k tFrame.dflt)).set k ((fs.set k (fs.getD k tFrame.dflt)).getD k tFrame.dflt)).set k ((((fs.set k (fs.getD k tFrame.dflt)).set k ((fs.set k (fs.getD k tFrame.dflt)).getD k tFrame.dflt)).getD k tFrame.dflt).1, ((((fs.set k (fs.getD k tFrame.dflt)).set k ((fs.set k (fs.getD k tFrame.dflt)).getD k tFrame.dflt)).getD k tFrame.dflt).2.1, ((((fs.set k (fs.getD k tFrame.dflt)).set k ((fs.set k (fs.getD k tFrame.dflt)).getD k tFrame.dflt)).getD k tFrame.dflt).2.2.1, ((((fs.set k (fs.getD k tFrame.dflt)).set k ((fs.set k (fs.getD k tFrame.dflt)).getD k tFrame.dflt)).getD k tFrame.dflt).2.2.2.1, ((((fs.set k (fs.getD k tFrame.dflt)).set k ((fs.set k (fs.getD k tFrame.dflt)).getD k tFrame.dflt)).getD k tFrame.dflt).2.2.2.2.1, ((fs.getD k tFrame.dflt).2.2.2.2.2.1, (((fs.set k (fs.getD k tFrame.dflt)).set k ((fs.set k (fs.getD k tFrame.dflt)).getD k tFrame.dflt)).getD k tFrame.dflt).2.2.2.2.2.2))))))).getD k tFrame.dflt).1, (((((fs.set k (fs.getD k tFrame.dflt)).set k ((fs.set k (fs.getD k tFrame.dflt)).getD k tFrame.dflt)).set k ((((fs.set k (fs.getD k tFrame.dflt)).set k ((fs.set k (fs.getD k tFrame.dflt)).getD k tFrame.dflt)).getD k tFrame.dflt).1, ((((fs.set k (fs.getD k tFrame.dflt)).set k ((fs.set k (fs.getD k tFrame.dflt)).getD k tFrame.dflt)).getD k tFrame.dflt).2.1, ((((fs.set k (fs.getD k tFrame.dflt)).set k ((fs.set k (fs.getD k tFrame.dflt)).getD k tFrame.dflt)).getD k tFrame.dflt).2.2.1, ((((fs.set k (fs.getD k tFrame.dflt)).set k ((fs.set k (fs.getD k tFrame.dflt)).getD k tFrame.dflt)).getD k tFrame.dflt).2.2.2.1, ((((fs.set k (fs.getD k tFrame.dflt)).set k ((fs.set k (fs.getD k tFrame.dflt)).getD k tFrame.dflt)).getD k tFrame.dflt).2.2.2.2.1, ((fs.getD k tFrame.dflt).2.2.2.2.2.1, (((fs.set k (fs.getD k tFrame.dflt)).set k ((fs.set k (fs.getD k tFrame.dflt)).getD k tFrame.dflt)).getD k tFrame.dflt).2.2.2.2.2.2))))))).getD k tFrame.dflt).2.1, (((((fs.set k (fs.getD k tFrame.dflt)).set k ((fs.set k (fs.getD k tFrame.dflt)).getD k tFrame.dflt)).set k ((((fs.set k (fs.getD k tFrame.dflt)).set k ((fs.set k (fs.getD k tFrame.dflt)).getD k tFrame.dflt)).getD k tFrame.dflt).1, ((((fs.set k (fs.getD k tFrame.dflt)).set k ((fs.set k (fs.getD k tFrame.dflt)).getD k tFrame.dflt)).getD k tFrame.dflt).2.1, ((((fs.set k (fs.getD k tFrame.dflt)).set k ((fs.set k (fs.getD k tFrame.dflt)).getD k tFrame.dflt)).getD k tFrame.dflt).2.2.1, ((((fs.set k (fs.getD k tFrame.dflt)).set k ((fs.set k (fs.getD k tFrame.dflt)).getD k tFrame.dflt)).getD k tFrame.dflt).2.2.2.1, ((((fs.set k (fs.getD k tFrame.dflt)).set k ((fs.set k (fs.getD k tFrame.dflt)).getD k tFrame.dflt)).getD k tFrame.dflt).2.2.2.2.1, ((fs.getD k tFrame.dflt).2.2.2.2.2.1, (((fs.set k (fs.getD k tFrame.dflt)).set k ((fs.set k (fs.getD k tFrame.dflt)).getD k tFrame.dflt)).getD k tFrame.dflt).2.2.2.2.2.2))))))).getD k tFrame.dflt).2.2.1, (((((fs.set k (fs.getD k tFrame.dflt)).set k ((fs.set k (fs.getD k tFrame.dflt)).getD k tFrame.dflt)).set k ((((fs.set k (fs.getD k tFrame.dflt)).set k ((fs.set k (fs.getD k tFrame.dflt)).getD k tFrame.dflt)).getD k tFrame.dflt).1, ((((fs.set k (fs.getD k tFrame.dflt)).set k ((fs.set k (fs.getD k tFrame.dflt)).getD k tFrame.dflt)).getD k tFrame.dflt).2.1, ((((fs.set k (fs.getD k tFrame.dflt)).set k ((fs.set k (fs.getD k tFrame.dflt)).getD k tFrame.dflt)).getD k tFrame.dflt).2.2.1, ((((fs.set k (fs.getD k tFrame.dflt)).set k ((fs.set k (fs.getD k tFrame.dflt)).getD k tFrame.dflt)).getD k tFrame.dflt).2.2.2.1, ((((fs.set k (fs.getD k tFrame.dflt)).set k ((fs.set k (fs.getD k tFrame.dflt)).getD k tFrame.dflt)).getD k tFrame.dflt).2.2.2.2.1, ((fs.getD k tFrame.dflt).2.2.2.2.2.1, (((fs.set k (fs.getD k tFrame.dflt)).set k ((fs.set k (fs.getD k tFrame.dflt)).getD k tFrame.dflt)).getD k tFrame.dflt).2.2.2.2.2.2))))))).getD k tFrame.dflt).2.2.2.1, (((((fs.set k (fs.getD k tFrame.dflt)).set k ((fs.set k (fs.getD k tFrame.dflt)).getD k tFrame.dflt)).set k ((((fs.set k (fs.getD k tFrame.dflt)).set k ((fs.set k (fs.getD k tFrame.dflt)).getD k tFrame.dflt)).getD k tFrame.dflt).1, ((((fs.set k (fs.getD k tFrame.dflt)).set k ((fs.set k (fs.getD k tFrame.dflt)).getD k tFrame.dflt)).getD k tFrame.dflt).2.1, ((((fs.set k (fs.getD k tFrame.dflt)).set k ((fs.set k (fs.getD k tFrame.dflt)).getD k tFrame.dflt)).getD k tFrame.dflt).2.2.1, ((((fs.set k (fs.getD k tFrame.dflt)).set k ((fs.set k (fs.getD k tFrame.dflt)).getD k tFrame.dflt)).getD k tFrame.dflt).2.2.2.1, ((((fs.set k (fs.getD k tFrame.dflt)).set k ((fs.set k (fs.getD k tFrame.dflt)).getD k tFrame.dflt)).getD k tFrame.dflt).2.2.2.2.1, ((fs.getD k tFrame.dflt).2.2.2.2.2.1, (((fs.set k (fs.getD k tFrame.dflt)).set k ((fs.set k (fs.getD k tFrame.dflt)).getD k tFrame.dflt)).getD k tFrame.dflt).2.2.2.2.2.2))))))).getD k tFrame.dflt).2.2.2.2.1, (((((fs.set k (fs.getD k tFrame.dflt)).set k ((fs.set k (fs.getD k tFrame.dflt)).getD k tFrame.dflt)).set k ((((fs.set k (fs.getD k tFrame.dflt)).set k ((fs.set k (fs.getD k tFrame.dflt)).getD k tFrame.dflt)).getD k tFrame.dflt).1, ((((fs.set k (fs.getD k tFrame.dflt)).set k ((fs.set k (fs.getD k tFrame.dflt)).getD k tFrame.dflt)).getD k tFrame.dflt).2.1, ((((fs.set k (fs.getD k tFrame.dflt)).set k ((fs.set k (fs.getD k tFrame.dflt)).getD k tFrame.dflt)).getD k tFrame.dflt).2.2.1, ((((fs.set k (fs.getD k tFrame.dflt)).set k ((fs.set k (fs.getD k tFrame.dflt)).getD k tFrame.dflt)).getD k tFrame.dflt).2.2.2.1, ((((fs.set k (fs.getD k tFrame.dflt)).set k ((fs.set k (fs.getD k tFrame.dflt)).getD k tFrame.dflt)).getD k tFrame.dflt).2.2.2.2.1, ((fs.getD k tFrame.dflt).2.2.2.2.2.1, (((fs.set k (fs.getD k tFrame.dflt)).set k ((fs.set k (fs.getD k tFrame.dflt)).getD k tFrame.dflt)).getD k tFrame.dflt).2.2.2.2.2.2))))))).getD k tFrame.dflt).2.2.2.2.2.1, (fs.getD k tFrame.dflt).2.2.2.2.2.2))))))) (some ((k + 1), 0)) 0 []]) (leAVs.same rfl) (⟨leB.refl _, ⟨rfl, ⟨rfl, by rfl⟩, .inl rfl, rfl, .inr rfl⟩, trivial⟩) ?_; exact own2_l0 l (k + 1) ((((fs.set k (fs.getD k tFrame.dflt)).set k ((fs.set k (fs.getD k tFrame.dflt)).getD k tFrame.dflt)).set k ((((fs.set k (fs.getD k tFrame.dflt)).set k ((fs.set k (fs.getD k tFrame.dflt)).getD k tFrame.dflt)).getD k tFrame.dflt).1, ((((fs.set k (fs.getD k tFrame.dflt)).set k ((fs.set k (fs.getD k tFrame.dflt)).getD k tFrame.dflt)).getD k tFrame.dflt).2.1, ((((fs.set k (fs.getD k tFrame.dflt)).set k ((fs.set k (fs.getD k tFrame.dflt)).getD k tFrame.dflt)).getD k tFrame.dflt).2.2.1, ((((fs.set k (fs.getD k tFrame.dflt)).set k ((fs.set k (fs.getD k tFrame.dflt)).getD k tFrame.dflt)).getD k tFrame.dflt).2.2.2.1, ((((fs.set k (fs.getD k tFrame.dflt)).set k ((fs.set k (fs.getD k tFrame.dflt)).getD k tFrame.dflt)).getD k tFrame.dflt).2.2.2.2.1, ((fs.getD k tFrame.dflt).2.2.2.2.2.1, (((fs.set k (fs.getD k tFrame.dflt)).set k ((fs.set k (fs.getD k tFrame.dflt)).getD k tFrame.dflt)).getD k tFrame.dflt).2.2.2.2.2.2))))))).set k (((((fs.set k (fs.getD k tFrame.dflt)).set k ((fs.set k (fs.getD k tFrame.dflt)).getD k tFrame.dflt)).set k ((((fs.set k (fs.getD k tFrame.dflt)).set k ((fs.set k (fs.getD k tFrame.dflt)).getD k tFrame.dflt)).getD k tFrame.dflt).1, ((((fs.set k (fs.getD k tFrame.dflt)).set k ((fs.set k (fs.getD k tFrame.dflt)).getD k tFrame.dflt)).getD k tFrame.dflt).2.1, ((((fs.set k (fs.getD k tFrame.dflt)).set k ((fs.set k (fs.getD k tFrame.dflt)).getD k tFrame.dflt)).getD k tFrame.dflt).2.2.1, ((((fs.set k (fs.getD k tFrame.dflt)).set k ((fs.set k (fs.getD k tFrame.dflt)).getD k tFrame.dflt)).getD k tFrame.dflt).2.2.2.1, ((((fs.set k (fs.getD k tFrame.dflt)).set k ((fs.set k (fs.getD k tFrame.dflt)).getD k tFrame.dflt)).getD k tFrame.dflt).2.2.2.2.1, ((fs.getD k tFrame.dflt).2.2.2.2.2.1, (((fs.set k (fs.getD k tFrame.dflt)).set k ((fs.set k (fs.getD k tFrame.dflt)).getD k tFrame.dflt)).getD k tFrame.dflt).2.2.2.2.2.2))))))).getD k tFrame.dflt).1, (((((fs.set k (fs.getD k tFrame.dflt)).set k ((fs.set k (fs.getD k tFrame.dflt)).getD k tFrame.dflt)).set k ((((fs.set k (fs.getD k tFrame.dflt)).set k ((fs.set k (fs.getD k tFrame.dflt)).getD k tFrame.dflt)).getD k tFrame.dflt).1, ((((fs.set k (fs.getD k tFrame.dflt)).set k ((fs.set k (fs.getD k tFrame.dflt)).getD k tFrame.dflt)).getD k tFrame.dflt).2.1, ((((fs.set k (fs.getD k tFrame.dflt)).set k ((fs.set k (fs.getD k tFrame.dflt)).getD k tFrame.dflt)).getD k tFrame.dflt).2.2.1, ((((fs.set k (fs.getD k tFrame.dflt)).set k ((fs.set k (fs.getD k tFrame.dflt)).getD k tFrame.dflt)).getD k tFrame.dflt).2.2.2.1, ((((fs.set k (fs.getD k tFrame.dflt)).set k ((fs.set k (fs.getD k tFrame.dflt)).getD k tFrame.dflt)).getD k tFrame.dflt).2.2.2.2.1, ((fs.getD k tFrame.dflt).2.2.2.2.2.1, (((fs.set k (fs.getD k tFrame.dflt)).set k ((fs.set k (fs.getD k tFrame.dflt)).getD k tFrame.dflt)).getD k tFrame.dflt).2.2.2.2.2.2))))))).getD k tFrame.dflt).2.1, (((((fs.set k (fs.getD k tFrame.dflt)).set k ((fs.set k (fs.getD k tFrame.dflt)).getD k tFrame.dflt)).set k ((((fs.set k (fs.getD k tFrame.dflt)).set k ((fs.set k (fs.getD k tFrame.dflt)).getD k tFrame.dflt)).getD k tFrame.dflt).1, ((((fs.set k (fs.getD k tFrame.dflt)).set k ((fs.set k (fs.getD k tFrame.dflt)).getD k tFrame.dflt)).getD k tFrame.dflt).2.1, ((((fs.set k (fs.getD k tFrame.dflt)).set k ((fs.set k (fs.getD k tFrame.dflt)).getD k tFrame.dflt)).getD k tFrame.dflt).2.2.1, ((((fs.set k (fs.getD k tFrame.dflt)).set k ((fs.set k (fs.getD k tFrame.dflt)).getD k tFrame.dflt)).getD k tFrame.dflt).2.2.2.1, ((((fs.set k (fs.getD k tFrame.dflt)).set k ((fs.set k (fs.getD k tFrame.dflt)).getD k tFrame.dflt)).getD k tFrame.dflt).2.2.2.2.1, ((fs.getD k tFrame.dflt).2.2.2.2.2.1, (((fs.set k (fs.getD k tFrame.dflt)).set k ((fs.set k (fs.getD k tFrame.dflt)).getD k tFrame.dflt)).getD k tFrame.dflt).2.2.2.2.2.2))))))).getD k tFrame.dflt).2.2.1, (((((fs.set k (fs.getD k tFrame.dflt)).set k ((fs.set k (fs.getD k tFrame.dflt)).getD k tFrame.dflt)).set k ((((fs.set k (fs.getD k tFrame.dflt)).set k ((fs.set k (fs.getD k tFrame.dflt)).getD k tFrame.dflt)).getD k tFrame.dflt).1, ((((fs.set k (fs.getD k tFrame.dflt)).set k ((fs.set k (fs.getD k tFrame.dflt)).getD k tFrame.dflt)).getD k tFrame.dflt).2.1, ((((fs.set k (fs.getD k tFrame.dflt)).set k ((fs.set k (fs.getD k tFrame.dflt)).getD k tFrame.dflt)).getD k tFrame.dflt).2.2.1, ((((fs.set k (fs.getD k tFrame.dflt)).set k ((fs.set k (fs.getD k tFrame.dflt)).getD k tFrame.dflt)).getD k tFrame.dflt).2.2.2.1, ((((fs.set k (fs.getD k tFrame.dflt)).set k ((fs.set k (fs.getD k tFrame.dflt)).getD k tFrame.dflt)).getD k tFrame.dflt).2.2.2.2.1, ((fs.getD k tFrame.dflt).2.2.2.2.2.1, (((fs.set k (fs.getD k tFrame.dflt)).set k ((fs.set k (fs.getD k tFrame.dflt)).getD k tFrame.dflt)).getD k tFrame.dflt).2.2.2.2.2.2))))))).getD k tFrame.dflt).2.2.2.1, (((((fs.set k (fs.getD k tFrame.dflt)).set k ((fs.set k (fs.getD k tFrame.dflt)).getD k tFrame.dflt)).set k ((((fs.set k (fs.getD k tFrame.dflt)).set k ((fs.set k (fs.getD k tFrame.dflt)).getD k tFrame.dflt)).getD k tFrame.dflt).1, ((((fs.set k (fs.getD k tFrame.dflt)).set k ((fs.set k (fs.getD k tFrame.dflt)).getD k tFrame.dflt)).getD k tFrame.dflt).2.1, ((((fs.set k (fs.getD k tFrame.dflt)).set k ((fs.set k (fs.getD k tFrame.dflt)).getD k tFrame.dflt)).getD k tFrame.dflt).2.2.1, ((((fs.set k (fs.getD k tFrame.dflt)).set k ((fs.set k (fs.getD k tFrame.dflt)).getD k tFrame.dflt)).getD k tFrame.dflt).2.2.2.1, ((((fs.set k (fs.getD k tFrame.dflt)).set k ((fs.set k (fs.getD k tFrame.dflt)).getD k tFrame.dflt)).getD k tFrame.dflt).2.2.2.2.1, ((fs.getD k tFrame.dflt).2.2.2.2.2.1, (((fs.set k (fs.getD k tFrame.dflt)).set k ((fs.set k (fs.getD k tFrame.dflt)).getD k tFrame.dflt)).getD k tFrame.dflt).2.2.2.2.2.2))))))).getD k tFrame.dflt).2.2.2.2.1, (((((fs.set k (fs.getD k tFrame.dflt)).set k ((fs.set k (fs.getD k tFrame.dflt)).getD k tFrame.dflt)).set k ((((fs.set k (fs.getD k tFrame.dflt)).set k ((fs.set k (fs.getD k tFrame.dflt)).getD k tFrame.dflt)).getD k tFrame.dflt).1, ((((fs.set k (fs.getD k tFrame.dflt)).set k ((fs.set k (fs.getD k tFrame.dflt)).getD k tFrame.dflt)).getD k tFrame.dflt).2.1, ((((fs.set k (fs.getD k tFrame.dflt)).set k ((fs.set k (fs.getD k tFrame.dflt)).getD k tFrame.dflt)).getD k tFrame.dflt).2.2.1, ((((fs.set k (fs.getD k tFrame.dflt)).set k ((fs.set k (fs.getD k tFrame.dflt)).getD k tFrame.dflt)).getD k tFrame.dflt).2.2.2.1, ((((fs.set k (fs.getD k tFrame.dflt)).set k ((fs.set k (fs.getD k tFrame.dflt)).getD k tFrame.dflt)).getD k tFrame.dflt).2.2.2.2.1, ((fs.getD k tFrame.dflt).2.2.2.2.2.1, (((fs.set k (fs.getD k tFrame.dflt)).set k ((fs.set k (fs.getD k tFrame.dflt)).getD k tFrame.dflt)).getD k tFrame.dflt).2.2.2.2.2.2))))))).getD k tFrame.dflt).2.2.2.2.2.1, (fs.getD k tFrame.dflt).2.2.2.2.2.2))))))) hl hl0 (by simp only [pairEta, setSelf]; exact hfs) (by omega))
  | (refine g_abs (H' := [.cells 166 [.fn0 81], .nest 61 skFrame fs (some (k, 0)) 0 []]) (.refl _) ?_; exact g_endO [0, 1] (kk rfl) (by decide) (leAV.refl _) ⟨leB.refl _, ⟨rfl, ⟨rfl, (show (fs) = l from by exact hfs)⟩, .inr ⟨(by simp only [Option.some.injEq, Prod.mk.injEq, and_true]; first | exact hfs | omega), rfl⟩, rfl, .inl rfl⟩, trivial⟩)
  )
 termination_by l.length - k
 decreasing_by all_goals omega
theorem own2_fun (l : List EFrame) (hl : l.length ≤ 1000) (hl2 : ∀ f ∈ l, f.2.2.2.2.2.1.length ≤ 1000 ∧ f.2.2.2.2.2.2.length ≤ 1000) : AFunH Tryz.prog 83 [.c (.ro tFrame l), .c (.ptr 0 0 0 0)] [.cells 166 [.fn0 81]] (.c (.osl 1 8 l.length)) [.cells 166 [.fn0 81], .nest 61 skFrame l none 0 []] (List.range 2) :=
 AFunH.ofLO ocSb own2_lv 3000 Tryz.func83 mixed rfl (by decide) (Nat.le_of_ble_eq_true rfl) rfl rfl (Nat.le_of_ble_eq_true rfl) (own2_T l) (by kernel_rfl) fun hF => by
  unfold own2_T
  refine g_callH (AFunH.frameB [] (cloneKF_fun l (by assumption)) rfl rfl rfl rfl rfl rfl rfl) ?_
  refine g_stop (RunN.keep [0, 1] (false :: true :: F2 (true :: F4 (true :: true :: true :: F16 (F4 (false :: []))))) (kk rfl) (by decide) rfl rfl ?_)
  refine RunN.less (env' := (.junk :: .c (.ptr 0 0 0 0) :: J2 (.c (.osl 1 8 l.length) :: J4 (.c (.osl 1 8 l.length) :: .c (.int .i64 ((l.length : Nat) : Int)) :: .c (.int .i64 ((0 : Nat) : Int)) :: J16 (J4 (.junk :: [])))))) (H' := [.cells 166 [.fn0 81], .nest 61 skFrame l (some (0, 0)) 0 []]) (leAVs.same rfl) (⟨leB.refl _, ⟨rfl, ⟨rfl, rfl⟩, .inl ⟨rfl, rfl⟩⟩, trivial⟩) ?_
  exact own2_l0 l 0 l hl hl2 rfl (by omega)

end Go.Proofs.YtkonkblfckhcbaaGreatDoor
namespace Go.Proofs.YtkonkblfckhcbaaGreatDoor
set_option maxHeartbeats 4000000
set_option linter.unusedVariables false
set_option linter.unusedSimpArgs false
set_option maxRecDepth 100000
abbrev skCell : Sk := .pair (.int .i64) (.pair (.int .i64) (.pair (.slice 48 skVal) (.slice 61 skFrame)))
abbrev skThread : Sk := .pair (.slice 61 skFrame) (.pair (.int .i64) (.pair (.int .i64) skVal))
def frSm (l : List EFrame) : Prop := l.length ≤ 1000 ∧ ∀ f ∈ l, f.2.2.2.2.2.1.length ≤ 1000 ∧ f.2.2.2.2.2.2.length ≤ 1000
/-- A state that is no larger than states are. -/
structure StSm (s : EState) : Prop where
 cells : s.1.length ≤ 1000
 cell : ∀ c ∈ s.1, c.2.2.1.length ≤ 1000 ∧ frSm c.2.2.2
 shapes : s.2.1.length ≤ 1000
 texts : s.2.2.1.length ≤ 1000
 threads : s.2.2.2.1.length ≤ 1000
 thread : ∀ t ∈ s.2.2.2.1, frSm t.1
 ends : s.2.2.2.2.1.length ≤ 1000
 said : s.2.2.2.2.2.1.length ≤ 1000
noncomputable def ocSc : Orc where
 pure := fun f args => match f, args with
  | _, _ => none
 heap := fun f args H => match f, args with
  | 81, [a0] => (match dA (.slice tVal) a0 with
    | some x0 => hres [] H (.c (.osl 0 2 x0.length)) [.ovec 48 tVal x0]
    | _ => none)
  | 83, [a0, .one (.c (.ptr b0 0 0 0))] => (match cellsAs 166 H[b0]? with
   | some [.fn0 81] => (match dA (.slice tFrame) a0 with
    | some x0 => hres [b0] H (.c (.osl 1 8 x0.length)) [.cells 166 [.fn0 81], .nest 61 skFrame x0 none 0 []]
    | _ => none)
   | _ => none)
  | 86, [a0] => (match dA (.slice tCell) a0 with
    | some x0 => hres [] H (.c (.osl 0 4 x0.length)) [.ovec 55 tCell x0]
    | _ => none)
  | 87, [a0] => (match dA (.slice tThread) a0 with
    | some x0 => hres [] H (.c (.osl 0 5 x0.length)) [.ovec 57 tThread x0]
    | _ => none)
  | 88, [a0] => (match dA (.slice tVal) a0 with
    | some x0 => hres [] H (.c (.osl 0 2 x0.length)) [.ovec 51 tVal x0]
    | _ => none)
  | 89, [a0] => (match dA (.slice .str) a0 with
    | some x0 => hres [] H (.c (.osl 0 1 x0.length)) [.ovec 9 .str x0]
    | _ => none)
  | 90, [a0] => (match dA (.slice tEnd) a0 with
    | some x0 => hres [] H (.c (.osl 0 3 x0.length)) [.ovec 112 tEnd x0]
    | _ => none)
  | _, _ => none
def own_lv : LV := ⟨(false :: true :: true :: true :: true :: F8 (F2 (true :: true :: true :: F16 (F8 (F4 (true :: true :: true :: F32 ([]))))))), []⟩
abbrev gKc12 : List CV := [.nilsl, .nilsl, .nilsl, .nilsl, .nilsl, .nilsl, .int .i64 0, .int .i64 0]
abbrev gKc11 (s : EState) : List CV := [.osl 3 4 s.1.length, .ro tVal s.2.1, .ro .str s.2.2.1, .ro tThread s.2.2.2.1, .ro tEnd s.2.2.2.2.1, .ro tVal s.2.2.2.2.2.1, .int .i64 s.2.2.2.2.2.2.1, .int .i64 s.2.2.2.2.2.2.2]
noncomputable def own_T (s : EState) : Tree :=
 .callH 86 [.c (.ro tCell s.1)] [.cells 40 (Ty.enc tState s), .cells 40 gKc12, .cells 166 [.fn0 81]] (.c (.osl 3 4 s.1.length)) [.cells 40 (Ty.enc tState s), .cells 40 gKc12, .cells 166 [.fn0 81], .ovec 55 tCell s.1] [3] <|
 .stop (lp (bodyOf Tryz.f38) 0) (.junk :: .c (.ptr 0 0 0 0) :: .c (.ptr 1 0 0 0) :: .c (.ptr 2 0 0 0) :: .c (.fnc (.fn0 83) (.ptr 2 0 0 0)) :: J8 (J2 (.c (.osl 3 4 s.1.length) :: .c (.int .i64 ((s.1.length : Nat) : Int)) :: .c (.int .i64 0) :: J32 (J16 (J8 (J4 (J2 (.junk :: [])))))))) [.cells 40 (gKc11 s), .cells 40 gKc12, .cells 166 [.fn0 81], .ovec 55 tCell s.1]
abbrev gKc10 (s : EState) : List CV := [.osl 3 4 s.1.length, .ro tVal s.2.1, .ro .str s.2.2.1, .osl 4 5 s.2.2.2.1.length, .ro tEnd s.2.2.2.2.1, .ro tVal s.2.2.2.2.2.1, .int .i64 s.2.2.2.2.2.2.1, .int .i64 s.2.2.2.2.2.2.2]
abbrev gKc6 (s : EState) (cs : List ECell) (k : Nat) : List AB := [.cells 40 [.osl 3 4 s.1.length, .ro tVal s.2.1, .ro .str s.2.2.1, .ro tThread s.2.2.2.1, .ro tEnd s.2.2.2.2.1, .ro tVal s.2.2.2.2.2.1, .int .i64 s.2.2.2.2.2.2.1, .int .i64 s.2.2.2.2.2.2.2], .cells 40 [.nilsl, .nilsl, .nilsl, .nilsl, .nilsl, .nilsl, .int .i64 0, .int .i64 0], .cells 166 [.fn0 81], .nest 55 skCell cs (some (k, 0)) 0 []]
abbrev gKc2 (s : EState) (cs : List ECell) (k : Nat) : List AB := [.cells 40 [.osl 3 4 s.1.length, .ro tVal s.2.1, .ro .str s.2.2.1, .ro tThread s.2.2.2.1, .ro tEnd s.2.2.2.2.1, .ro tVal s.2.2.2.2.2.1, .int .i64 s.2.2.2.2.2.2.1, .int .i64 s.2.2.2.2.2.2.2], .cells 40 [.nilsl, .nilsl, .nilsl, .nilsl, .nilsl, .nilsl, .int .i64 0, .int .i64 0], .cells 166 [.fn0 81], .nest 55 skCell cs (some (k, 0)) 0 [], .cells 55 (Ty.enc tCell (cs.getD k tCell.dflt)), .ovec 48 tVal (cs.getD k tCell.dflt).2.2.1]
noncomputable def own_l0_R (s : EState) (k : Nat) (cs : List ECell) : Tree :=
 .ite (decide (((k : Nat) : Int) < ((s.1.length : Nat) : Int)))
 (.need ((0 : Int) ≤ ((k : Nat) : Int) ∧ (((k : Nat) : Int) : Int) < ((s.1.length : Nat) : Int)) <|
  .need (k < cs.length ∧ k ≤ k) <|
  .callH 81 [.c (.ro tVal (cs.getD k tCell.dflt).2.2.1)] [.cells 40 (gKc11 s), .cells 40 gKc12, .cells 166 [.fn0 81], .nest 55 skCell cs (some (k, 0)) 0 [], .cells 55 (Ty.enc tCell (cs.getD k tCell.dflt))] (.c (.osl 5 2 (cs.getD k tCell.dflt).2.2.1.length)) (gKc2 s cs k) [5] <|
  .callH 83 [.c (.ro tFrame (cs.getD k tCell.dflt).2.2.2), .c (.ptr 2 0 0 0)] (gKc2 s cs k) (.c (.osl 6 8 (cs.getD k tCell.dflt).2.2.2.length)) [.cells 40 (gKc11 s), .cells 40 gKc12, .cells 166 [.fn0 81], .nest 55 skCell cs (some (k, 0)) 0 [], .cells 55 (Ty.enc tCell (cs.getD k tCell.dflt)), .ovec 48 tVal (cs.getD k tCell.dflt).2.2.1, .nest 61 skFrame (cs.getD k tCell.dflt).2.2.2 none 0 []] [2, 6] <|
  .need ((0 : Int) ≤ ((k : Nat) : Int) ∧ (((k : Nat) : Int) : Int) < ((s.1.length : Nat) : Int)) <|
  .need (k < cs.length ∧ (List.isEmpty ([] : List (Nat × CV)) = true ∨ k = 0)) <|
  .need ((0 : Int) ≤ ((k : Nat) : Int) ∧ (((k : Nat) : Int) : Int) < ((s.1.length : Nat) : Int)) <|
  .need (k < (cs.set k (cs.getD k tCell.dflt)).length ∧ (List.isEmpty ([(2, .osl 5 2 (cs.getD k tCell.dflt).2.2.1.length)] : List (Nat × CV)) = true ∨ k = k)) <|
  .need (inR .i64 (((k : Nat) : Int) + 1)) <|
  .stop (lp (bodyOf Tryz.f38) 0) (.junk :: .c (.ptr 0 0 0 0) :: .c (.ptr 1 0 0 0) :: .c (.ptr 2 0 0 0) :: .c (.fnc (.fn0 83) (.ptr 2 0 0 0)) :: J8 (J2 (.c (.osl 3 4 s.1.length) :: .c (.int .i64 ((s.1.length : Nat) : Int)) :: .c (.int .i64 (((k : Nat) : Int) + 1)) :: J32 (J16 (J8 (J4 (J2 (.junk :: [])))))))) [.cells 40 (gKc11 s), .cells 40 gKc12, .cells 166 [.fn0 81], .nest 55 skCell ((cs.set k (cs.getD k tCell.dflt)).set k ((cs.set k (cs.getD k tCell.dflt)).getD k tCell.dflt)) (some (k, 0)) k [(2, .osl 5 2 (cs.getD k tCell.dflt).2.2.1.length), (3, .osl 6 8 (cs.getD k tCell.dflt).2.2.2.length)], .cells 55 (Ty.enc tCell (cs.getD k tCell.dflt)), .ovec 48 tVal (cs.getD k tCell.dflt).2.2.1, .nest 61 skFrame (cs.getD k tCell.dflt).2.2.2 none 0 []])
 (.callH 87 [.c (.ro tThread s.2.2.2.1)] (gKc6 s cs k) (.c (.osl 4 5 s.2.2.2.1.length)) [.cells 40 (gKc11 s), .cells 40 gKc12, .cells 166 [.fn0 81], .nest 55 skCell cs (some (k, 0)) 0 [], .ovec 57 tThread s.2.2.2.1] [4] <|
  .stop (lp (bodyOf Tryz.f38) 1) (.junk :: .c (.ptr 0 0 0 0) :: .c (.ptr 1 0 0 0) :: .c (.ptr 2 0 0 0) :: .c (.fnc (.fn0 83) (.ptr 2 0 0 0)) :: J8 (J2 (.c (.osl 3 4 s.1.length) :: .c (.int .i64 ((s.1.length : Nat) : Int)) :: .c (.int .i64 ((k : Nat) : Int)) :: J16 (J8 (J4 (.c (.osl 4 5 s.2.2.2.1.length) :: .c (.int .i64 ((s.2.2.2.1.length : Nat) : Int)) :: .c (.int .i64 0) :: J32 ([]))))))) [.cells 40 (gKc10 s), .cells 40 gKc12, .cells 166 [.fn0 81], .nest 55 skCell cs (some (k, 0)) 0 [], .ovec 57 tThread s.2.2.2.1])
abbrev gKc8 (s : EState) : List CV := [.osl 3 4 s.1.length, .osl 5 2 s.2.1.length, .osl 6 1 s.2.2.1.length, .osl 4 5 s.2.2.2.1.length, .osl 7 3 s.2.2.2.2.1.length, .osl 8 2 s.2.2.2.2.2.1.length, .int .i64 s.2.2.2.2.2.2.1, .int .i64 s.2.2.2.2.2.2.2]
abbrev gKc5 (s : EState) (cs : List ECell) (th : List EThread) (k : Nat) : List AB := [.cells 40 [.osl 3 4 s.1.length, .ro tVal s.2.1, .ro .str s.2.2.1, .osl 4 5 s.2.2.2.1.length, .ro tEnd s.2.2.2.2.1, .ro tVal s.2.2.2.2.2.1, .int .i64 s.2.2.2.2.2.2.1, .int .i64 s.2.2.2.2.2.2.2], .cells 40 [.nilsl, .nilsl, .nilsl, .nilsl, .nilsl, .nilsl, .int .i64 0, .int .i64 0], .cells 166 [.fn0 81], .nest 55 skCell cs none 0 [], .nest 57 skThread th (some (k, 0)) 0 []]
abbrev gKc4 (s : EState) (cs : List ECell) (th : List EThread) (k : Nat) : List AB := [.cells 40 [.osl 3 4 s.1.length, .ro tVal s.2.1, .ro .str s.2.2.1, .osl 4 5 s.2.2.2.1.length, .ro tEnd s.2.2.2.2.1, .ro tVal s.2.2.2.2.2.1, .int .i64 s.2.2.2.2.2.2.1, .int .i64 s.2.2.2.2.2.2.2], .cells 40 [.nilsl, .nilsl, .nilsl, .nilsl, .nilsl, .nilsl, .int .i64 0, .int .i64 0], .cells 166 [.fn0 81], .nest 55 skCell cs none 0 [], .nest 57 skThread th (some (k, 0)) 0 [], .ovec 51 tVal s.2.1]
abbrev gKc3 (s : EState) (cs : List ECell) (th : List EThread) (k : Nat) : List AB := [.cells 40 [.osl 3 4 s.1.length, .ro tVal s.2.1, .ro .str s.2.2.1, .osl 4 5 s.2.2.2.1.length, .ro tEnd s.2.2.2.2.1, .ro tVal s.2.2.2.2.2.1, .int .i64 s.2.2.2.2.2.2.1, .int .i64 s.2.2.2.2.2.2.2], .cells 40 [.nilsl, .nilsl, .nilsl, .nilsl, .nilsl, .nilsl, .int .i64 0, .int .i64 0], .cells 166 [.fn0 81], .nest 55 skCell cs none 0 [], .nest 57 skThread th (some (k, 0)) 0 [], .ovec 51 tVal s.2.1, .ovec 9 .str s.2.2.1]
abbrev gKc1 (s : EState) (cs : List ECell) (th : List EThread) (k : Nat) : List AB := [.cells 40 [.osl 3 4 s.1.length, .ro tVal s.2.1, .ro .str s.2.2.1, .osl 4 5 s.2.2.2.1.length, .ro tEnd s.2.2.2.2.1, .ro tVal s.2.2.2.2.2.1, .int .i64 s.2.2.2.2.2.2.1, .int .i64 s.2.2.2.2.2.2.2], .cells 40 [.nilsl, .nilsl, .nilsl, .nilsl, .nilsl, .nilsl, .int .i64 0, .int .i64 0], .cells 166 [.fn0 81], .nest 55 skCell cs none 0 [], .nest 57 skThread th (some (k, 0)) 0 [], .ovec 51 tVal s.2.1, .ovec 9 .str s.2.2.1, .ovec 112 tEnd s.2.2.2.2.1]
abbrev gKc0 (s : EState) (cs : List ECell) (th : List EThread) (k : Nat) : List AB := [.cells 40 (gKc8 s), .cells 40 (gKc8 s), .cells 166 [.fn0 81], .nest 55 skCell cs none 0 [], .nest 57 skThread th (some (k, 0)) 0 [], .ovec 51 tVal s.2.1, .ovec 9 .str s.2.2.1, .ovec 112 tEnd s.2.2.2.2.1, .ovec 48 tVal s.2.2.2.2.2.1]
noncomputable def own_l1_R (s : EState) (k : Nat) (cs : List ECell) (th : List EThread) : Tree :=
 .ite (decide (((k : Nat) : Int) < ((s.2.2.2.1.length : Nat) : Int)))
 (.need ((0 : Int) ≤ ((k : Nat) : Int) ∧ (((k : Nat) : Int) : Int) < ((s.2.2.2.1.length : Nat) : Int)) <|
  .need (k < th.length ∧ k ≤ k) <|
  .callH 83 [.c (.ro tFrame (th.getD k tThread.dflt).1), .c (.ptr 2 0 0 0)] [.cells 40 (gKc10 s), .cells 40 gKc12, .cells 166 [.fn0 81], .nest 55 skCell cs none 0 [], .nest 57 skThread th (some (k, 0)) 0 [], .cells 57 (Ty.enc tThread (th.getD k tThread.dflt))] (.c (.osl 6 8 (th.getD k tThread.dflt).1.length)) [.cells 40 (gKc10 s), .cells 40 gKc12, .cells 166 [.fn0 81], .nest 55 skCell cs none 0 [], .nest 57 skThread th (some (k, 0)) 0 [], .cells 57 (Ty.enc tThread (th.getD k tThread.dflt)), .nest 61 skFrame (th.getD k tThread.dflt).1 none 0 []] [2, 6] <|
  .need ((0 : Int) ≤ ((k : Nat) : Int) ∧ (((k : Nat) : Int) : Int) < ((s.2.2.2.1.length : Nat) : Int)) <|
  .need (k < th.length ∧ (List.isEmpty ([] : List (Nat × CV)) = true ∨ k = 0)) <|
  .need (inR .i64 (((k : Nat) : Int) + 1)) <|
  .stop (lp (bodyOf Tryz.f38) 1) (.junk :: .c (.ptr 0 0 0 0) :: .c (.ptr 1 0 0 0) :: .c (.ptr 2 0 0 0) :: .c (.fnc (.fn0 83) (.ptr 2 0 0 0)) :: J32 (J8 (.junk :: .c (.osl 4 5 s.2.2.2.1.length) :: .c (.int .i64 ((s.2.2.2.1.length : Nat) : Int)) :: .c (.int .i64 (((k : Nat) : Int) + 1)) :: J32 ([])))) [.cells 40 (gKc10 s), .cells 40 gKc12, .cells 166 [.fn0 81], .nest 55 skCell cs none 0 [], .nest 57 skThread (th.set k (th.getD k tThread.dflt)) (some (k, 0)) k [(0, .osl 6 8 (th.getD k tThread.dflt).1.length)], .cells 57 (Ty.enc tThread (th.getD k tThread.dflt)), .nest 61 skFrame (th.getD k tThread.dflt).1 none 0 []])
 (.callH 88 [.c (.ro tVal s.2.1)] (gKc5 s cs th k) (.c (.osl 5 2 s.2.1.length)) (gKc4 s cs th k) [5] <|
  .callH 89 [.c (.ro .str s.2.2.1)] (gKc4 s cs th k) (.c (.osl 6 1 s.2.2.1.length)) (gKc3 s cs th k) [6] <|
  .callH 90 [.c (.ro tEnd s.2.2.2.2.1)] (gKc3 s cs th k) (.c (.osl 7 3 s.2.2.2.2.1.length)) (gKc1 s cs th k) [7] <|
  .callH 81 [.c (.ro tVal s.2.2.2.2.2.1)] (gKc1 s cs th k) (.c (.osl 8 2 s.2.2.2.2.2.1.length)) [.cells 40 (gKc10 s), .cells 40 gKc12, .cells 166 [.fn0 81], .nest 55 skCell cs none 0 [], .nest 57 skThread th (some (k, 0)) 0 [], .ovec 51 tVal s.2.1, .ovec 9 .str s.2.2.1, .ovec 112 tEnd s.2.2.2.2.1, .ovec 48 tVal s.2.2.2.2.2.1] [8] <|
  .ret (.agg (gKc8 s)) (gKc0 s cs th k))
abbrev gKc9 (s : EState) : List CV := [.osl 0 4 s.1.length, .osl 1 2 s.2.1.length, .osl 2 1 s.2.2.1.length, .osl 3 5 s.2.2.2.1.length, .osl 4 3 s.2.2.2.2.1.length, .osl 5 2 s.2.2.2.2.2.1.length, .int .i64 s.2.2.2.2.2.2.1, .int .i64 s.2.2.2.2.2.2.2]
abbrev gKc7 (s : EState) : List AB := [.nest 55 skCell s.1 none 0 [], .ovec 51 tVal s.2.1, .ovec 9 .str s.2.2.1, .nest 57 skThread s.2.2.2.1 none 0 [], .ovec 112 tEnd s.2.2.2.2.1, .ovec 48 tVal s.2.2.2.2.2.1]
theorem own_l1 (s : EState) (k : Nat) (cs : List ECell) (th : List EThread) (hs : StSm s) (hcs : cs = s.1) (hth : th = s.2.2.2.1) (hk : k ≤ s.2.2.2.1.length) : Run Tryz.prog 38 (absQ (finO Tryz.prog 0 (.agg (gKc9 s)) (gKc7 s))) (lp (bodyOf Tryz.f38) 1) (.junk :: .c (.ptr 0 0 0 0) :: .c (.ptr 1 0 0 0) :: .c (.ptr 2 0 0 0) :: .c (.fnc (.fn0 83) (.ptr 2 0 0 0)) :: J32 (J8 (.junk :: .c (.osl 4 5 s.2.2.2.1.length) :: .c (.int .i64 ((s.2.2.2.1.length : Nat) : Int)) :: .c (.int .i64 ((k : Nat) : Int)) :: J32 ([])))) (gKc5 s cs th k) :=
 Run.roundA ocSc own_lv 3000 Tryz.func38 mixed (own_l1_R s k cs th) (by kernel_rfl) (by
  unfold own_l1_R
  have hbc := hs.cells
  have hbt := hs.threads
  have hcl := hs.cell
  have hhl := hs.thread
  have hlen : th.length = s.2.2.2.1.length := by rw [hth]
  rw [← hth] at hhl
  refine g_iteD (fun h0 => ?_) (fun h0 => ?_)
  ·refine g_need (by omega) ?_
   refine g_need (by omega) ?_
   refine g_callH (AFunH.frameB [2] (own2_fun (th.getD k tThread.dflt).1 (by exact (hhl _ (getD_mem (α := EThread) (Ty.dflt tThread) (by omega))).1) (by exact (hhl _ (getD_mem (α := EThread) (Ty.dflt tThread) (by omega))).2)) rfl rfl rfl rfl rfl rfl rfl) ?_
   refine g_need (by omega) ?_
   refine g_need (by simp only [List.length_set, List.isEmpty_nil, List.isEmpty_cons, true_or, or_true, and_true]; omega) ?_
   refine g_need (by rw [i64_iff]; omega) ?_
   refine g_stop (RunN.abs (H' := [.cells 40 (gKc10 s), .cells 40 gKc12, .cells 166 [.fn0 81], .nest 55 skCell cs none 0 [], .nest 57 skThread ((th.set k (th.getD k tThread.dflt)).set k ((th.getD k tThread.dflt).1, ((th.set k (th.getD k tThread.dflt)).getD k tThread.dflt).2)) (some ((k + 1), 0)) k [], .cells 57 (Ty.enc tThread (th.getD k tThread.dflt)), .dead]) (.step (.mk 4 6 0 _ _ _ _ _ skFrame _ _ _ _ _ _ _ rfl rfl (.inr ⟨_, rfl⟩) (by decide) rfl rfl (rfl) (by simp only [List.length_set]; omega) rfl (.inr ⟨0, rfl, by decide, rfl, .inr ⟨rfl, rfl⟩⟩)) (.refl _)) (RunN.keep [0, 1, 2, 3, 4] (false :: true :: true :: true :: true :: F32 (F8 (false :: true :: true :: true :: F32 ([])))) n0 (by decide) rfl rfl ?_))
   refine RunN.less (env' := (.junk :: .c (.ptr 0 0 0 0) :: .c (.ptr 1 0 0 0) :: .c (.ptr 2 0 0 0) :: .c (.fnc (.fn0 83) (.ptr 2 0 0 0)) :: J32 (J8 (.junk :: .c (.osl 4 5 s.2.2.2.1.length) :: .c (.int .i64 ((s.2.2.2.1.length : Nat) : Int)) :: .c (.int .i64 (((k + 1) : Nat) : Int)) :: J32 ([]))))) (H' := [.cells 40 (gKc10 s), .cells 40 gKc12, .cells 166 [.fn0 81], .nest 55 skCell cs none 0 [], .nest 57 skThread ((th.set k (th.getD k tThread.dflt)).set k ((th.getD k tThread.dflt).1, ((th.set k (th.getD k tThread.dflt)).getD k tThread.dflt).2)) (some ((k + 1), 0)) 0 []]) (leAVs.same rfl) (⟨leB.refl _, leB.refl _, leB.refl _, leB.refl _, ⟨rfl, ⟨rfl, by rfl⟩, .inl rfl, rfl, .inr rfl⟩, trivial⟩) ?_
   exact own_l1 s (k + 1) cs ((th.set k (th.getD k tThread.dflt)).set k ((th.getD k tThread.dflt).1, ((th.set k (th.getD k tThread.dflt)).getD k tThread.dflt).2)) hs (by exact hcs) (by simp only [pairEta, setSelf]; exact hth) (by omega)
  ·refine g_callH (AFunH.frameB [] (cloneKP_fun s.2.1 hs.shapes) rfl rfl rfl rfl rfl rfl rfl) ?_
   refine g_callH (AFunH.frameB [] (cloneKT_fun s.2.2.1 hs.texts) rfl rfl rfl rfl rfl rfl rfl) ?_
   refine g_callH (AFunH.frameB [] (cloneKE_fun s.2.2.2.2.1 hs.ends) rfl rfl rfl rfl rfl rfl rfl) ?_
   refine g_callH (AFunH.frameB [] (own1_fun s.2.2.2.2.2.1 (by exact hs.said)) rfl rfl rfl rfl rfl rfl rfl) ?_
   refine g_abs (H' := (gKc0 s cs th k)) (.refl _) ?_
   exact g_endO [3, 5, 6, 4, 7, 8] (kk rfl) (by decide) (leAV.refl _) ⟨⟨rfl, ⟨rfl, (show (cs) = s.1 from by exact hcs)⟩, .inl rfl, rfl, .inl rfl⟩, leB.refl _, leB.refl _, ⟨rfl, ⟨rfl, (show (th) = s.2.2.2.1 from by exact hth)⟩, .inr ⟨(by simp only [Option.some.injEq, Prod.mk.injEq, and_true]; first | exact hcs | exact hth | rfl | omega), rfl⟩, rfl, .inl rfl⟩, leB.refl _, leB.refl _, trivial⟩
  )
 termination_by s.2.2.2.1.length - k
 decreasing_by all_goals omega
theorem own_l0 (s : EState) (k : Nat) (cs : List ECell) (hs : StSm s) (hcs : cs = s.1) (hk : k ≤ s.1.length) : Run Tryz.prog 38 (absQ (finO Tryz.prog 0 (.agg (gKc9 s)) (gKc7 s))) (lp (bodyOf Tryz.f38) 0) (.junk :: .c (.ptr 0 0 0 0) :: .c (.ptr 1 0 0 0) :: .c (.ptr 2 0 0 0) :: .c (.fnc (.fn0 83) (.ptr 2 0 0 0)) :: J8 (J2 (.c (.osl 3 4 s.1.length) :: .c (.int .i64 ((s.1.length : Nat) : Int)) :: .c (.int .i64 ((k : Nat) : Int)) :: J32 (J16 (J8 (J4 (J2 (.junk :: [])))))))) (gKc6 s cs k) :=
 Run.roundA ocSc own_lv 3000 Tryz.func38 mixed (own_l0_R s k cs) (by kernel_rfl) (by
  unfold own_l0_R
  have hbc := hs.cells
  have hbt := hs.threads
  have hcl := hs.cell
  have hhl := hs.thread
  have hlen : cs.length = s.1.length := by rw [hcs]
  rw [← hcs] at hcl
  repeat' first
  | with_reducible refine g_iteD (fun h => ?_) (fun h => ?_)
  | refine g_need (by first | (omega) | (simp only [List.length_set, List.isEmpty_nil, List.isEmpty_cons, true_or, or_true, and_true]; omega) | (rw [i64_iff]; omega)) ?_
  | refine g_callH (AFunH.frameB [] (own1_fun (cs.getD k tCell.dflt).2.2.1 (by exact (hcl _ (getD_mem (α := ECell) (Ty.dflt tCell) (by omega))).1)) rfl rfl rfl rfl rfl rfl rfl) ?_
  | refine g_callH (AFunH.frameB [2] (own2_fun (cs.getD k tCell.dflt).2.2.2 (by exact (hcl _ (getD_mem (α := ECell) (Ty.dflt tCell) (by omega))).2.1) (by exact (hcl _ (getD_mem (α := ECell) (Ty.dflt tCell) (by omega))).2.2)) rfl rfl rfl rfl rfl rfl rfl) ?_
  | (refine g_stop (RunN.abs (H' := [.cells 40 (gKc11 s), .cells 40 gKc12, .cells 166 [.fn0 81], .nest 55 skCell ((((cs.set k (cs.getD k tCell.dflt)).set k ((cs.set k (cs.getD k tCell.dflt)).getD k tCell.dflt)).set k ((((cs.set k (cs.getD k tCell.dflt)).set k ((cs.set k (cs.getD k tCell.dflt)).getD k tCell.dflt)).getD k tCell.dflt).1, ((((cs.set k (cs.getD k tCell.dflt)).set k ((cs.set k (cs.getD k tCell.dflt)).getD k tCell.dflt)).getD k tCell.dflt).2.1, ((cs.getD k tCell.dflt).2.2.1, (((cs.set k (cs.getD k tCell.dflt)).set k ((cs.set k (cs.getD k tCell.dflt)).getD k tCell.dflt)).getD k tCell.dflt).2.2.2)))).set k (((((cs.set k (cs.getD k tCell.dflt)).set k ((cs.set k (cs.getD k tCell.dflt)).getD k tCell.dflt)).set k ((((cs.set k (cs.getD k tCell.dflt)).set k ((cs.set k (cs.getD k tCell.dflt)).getD k tCell.dflt)).getD k tCell.dflt).1, ((((cs.set k (cs.getD k tCell.dflt)).set k ((cs.set k (cs.getD k tCell.dflt)).getD k tCell.dflt)).getD k tCell.dflt).2.1, ((cs.getD k tCell.dflt).2.2.1, (((cs.set k (cs.getD k tCell.dflt)).set k ((cs.set k (cs.getD k tCell.dflt)).getD k tCell.dflt)).getD k tCell.dflt).2.2.2)))).getD k tCell.dflt).1, (((((cs.set k (cs.getD k tCell.dflt)).set k ((cs.set k (cs.getD k tCell.dflt)).getD k tCell.dflt)).set k ((((cs.set k (cs.getD k tCell.dflt)).set k ((cs.set k (cs.getD k tCell.dflt)).getD k tCell.dflt)).getD k tCell.dflt).1, ((((cs.set k (cs.getD k tCell.dflt)).set k ((cs.set k (cs.getD k tCell.dflt)).getD k tCell.dflt)).getD k tCell.dflt).2.1, ((cs.getD k tCell.dflt).2.2.1, (((cs.set k (cs.getD k tCell.dflt)).set k ((cs.set k (cs.getD k tCell.dflt)).getD k tCell.dflt)).getD k tCell.dflt).2.2.2)))).getD k tCell.dflt).2.1, (((((cs.set k (cs.getD k tCell.dflt)).set k ((cs.set k (cs.getD k tCell.dflt)).getD k tCell.dflt)).set k ((((cs.set k (cs.getD k tCell.dflt)).set k ((cs.set k (cs.getD k tCell.dflt)).getD k tCell.dflt)).getD k tCell.dflt).1, ((((cs.set k (cs.getD k tCell.dflt)).set k ((cs.set k (cs.getD k tCell.dflt)).getD k tCell.dflt)).getD k tCell.dflt).2.1, ((cs.getD k tCell.dflt).2.2.1, (((cs.set k (cs.getD k tCell.dflt)).set k ((cs.set k (cs.getD k tCell.dflt)).getD k tCell.dflt)).getD k tCell.dflt).2.2.2)))).getD k tCell.dflt).2.2.1, (cs.getD k tCell.dflt).2.2.2)))) (some ((k + 1), 0)) k [], .cells 55 (Ty.enc tCell (cs.getD k tCell.dflt)), .dead, .dead]) (.step (.mk 3 5 2 _ _ _ _ _ skVal _ _ _ _ _ _ _ rfl rfl (.inl ⟨rfl, rfl⟩) (by decide) rfl rfl (rfl) (by simp only [List.length_set]; omega) rfl (.inr ⟨0, rfl, by decide, rfl, .inl rfl⟩)) (.step (.mk 3 6 3 _ _ _ _ _ skFrame _ _ _ _ _ _ _ rfl rfl (.inr ⟨_, rfl⟩) (by decide) rfl rfl (rfl) (by simp only [List.length_set]; omega) rfl (.inr ⟨3, rfl, by decide, rfl, .inr ⟨rfl, rfl⟩⟩)) (.refl _))) (RunN.keep [0, 1, 2, 3] (false :: true :: true :: true :: true :: F8 (F2 (true :: true :: true :: F32 (F16 (F8 (F4 (F2 (false :: [])))))))) n0 (by decide) rfl rfl ?_)); refine RunN.less (env' := (.junk :: .c (.ptr 0 0 0 0) :: .c (.ptr 1 0 0 0) :: .c (.ptr 2 0 0 0) :: .c (.fnc (.fn0 83) (.ptr 2 0 0 0)) :: J8 (J2 (.c (.osl 3 4 s.1.length) :: .c (.int .i64 ((s.1.length : Nat) : Int)) :: .c (.int .i64 (((k + 1) : Nat) : Int)) :: J32 (J16 (J8 (J4 (J2 (.junk :: []))))))))) (H' := [.cells 40 (gKc11 s), .cells 40 gKc12, .cells 166 [.fn0 81], .nest 55 skCell ((((cs.set k (cs.getD k tCell.dflt)).set k ((cs.set k (cs.getD k tCell.dflt)).getD k tCell.dflt)).set k ((((cs.set k (cs.getD k tCell.dflt)).set k ((cs.set k (cs.getD k tCell.dflt)).getD k tCell.dflt)).getD k tCell.dflt).1, ((((cs.set k (cs.getD k tCell.dflt)).set k ((cs.set k (cs.getD k tCell.dflt)).getD k tCell.dflt)).getD k tCell.dflt).2.1, ((cs.getD k tCell.dflt).2.2.1, (((cs.set k (cs.getD k tCell.dflt)).set k ((cs.set k (cs.getD k tCell.dflt)).getD k tCell.dflt)).getD k tCell.dflt).2.2.2)))).set k (((((cs.set k (cs.getD k tCell.dflt)).set k ((cs.set k (cs.getD k tCell.dflt)).getD k tCell.dflt)).set k ((((cs.set k (cs.getD k tCell.dflt)).set k ((cs.set k (cs.getD k tCell.dflt)).getD k tCell.dflt)).getD k tCell.dflt).1, ((((cs.set k (cs.getD k tCell.dflt)).set k ((cs.set k (cs.getD k tCell.dflt)).getD k tCell.dflt)).getD k tCell.dflt).2.1, ((cs.getD k tCell.dflt).2.2.1, (((cs.set k (cs.getD k tCell.dflt)).set k ((cs.set k (cs.getD k tCell.dflt)).getD k tCell.dflt)).getD k tCell.dflt).2.2.2)))).getD k tCell.dflt).1, (((((cs.set k (cs.getD k tCell.dflt)).set k ((cs.set k (cs.getD k tCell.dflt)).getD k tCell.dflt)).set k ((((cs.set k (cs.getD k tCell.dflt)).set k ((cs.set k (cs.getD k tCell.dflt)).getD k tCell.dflt)).getD k tCell.dflt).1, ((((cs.set k (cs.getD k tCell.dflt)).set k ((cs.set k (cs.getD k tCell.dflt)).getD k tCell.dflt)).getD k tCell.dflt).2.1, ((cs.getD k tCell.dflt).2.2.1, (((cs.set k (cs.getD k tCell.dflt)).set k ((cs.set k (cs.getD k tCell.dflt)).getD k tCell.dflt)).getD k tCell.dflt).2.2.2)))).getD k tCell.dflt).2.1, (((((cs.set k (cs.getD k tCell.dflt)).set k ((cs.set k (cs.getD k tCell.dflt)).getD k tCell.dflt)).set k ((((cs.set k (cs.getD k tCell.dflt)).set k ((cs.set k (cs.getD k tCell.dflt)).getD k tCell.dflt)).getD k tCell.dflt).1, ((((cs.set k (cs.getD k tCell.dflt)).set k ((cs.set k (cs.getD k tCell.dflt)).getD k tCell.dflt)).getD k tCell.dflt).2.1, ((cs.getD k tCell.dflt).2.2.1, (((cs.set k (cs.getD k tCell.dflt)).set k ((cs.set k (cs.getD k tCell.dflt)).getD k tCell.dflt)).getD k tCell.dflt).2.2.2)))).getD k tCell.dflt).2.2.1, (cs.getD k tCell.dflt).2.2.2)))) (some ((k + 1), 0)) 0 []]) (leAVs.same rfl) (⟨leB.refl _, leB.refl _, leB.refl _, ⟨rfl, ⟨rfl, by rfl⟩, .inl rfl, rfl, .inr rfl⟩, trivial⟩) ?_; exact own_l0 s (k + 1) ((((cs.set k (cs.getD k tCell.dflt)).set k ((cs.set k (cs.getD k tCell.dflt)).getD k tCell.dflt)).set k ((((cs.set k (cs.getD k tCell.dflt)).set k ((cs.set k (cs.getD k tCell.dflt)).getD k tCell.dflt)).getD k tCell.dflt).1, ((((cs.set k (cs.getD k tCell.dflt)).set k ((cs.set k (cs.getD k tCell.dflt)).getD k tCell.dflt)).getD k tCell.dflt).2.1, ((cs.getD k tCell.dflt).2.2.1, (((cs.set k (cs.getD k tCell.dflt)).set k ((cs.set k (cs.getD k tCell.dflt)).getD k tCell.dflt)).getD k tCell.dflt).2.2.2)))).set k (((((cs.set k (cs.getD k tCell.dflt)).set k ((cs.set k (cs.getD k tCell.dflt)).getD k tCell.dflt)).set k ((((cs.set k (cs.getD k tCell.dflt)).set k ((cs.set k (cs.getD k tCell.dflt)).getD k tCell.dflt)).getD k tCell.dflt).1, ((((cs.set k (cs.getD k tCell.dflt)).set k ((cs.set k (cs.getD k tCell.dflt)).getD k tCell.dflt)).getD k tCell.dflt).2.1, ((cs.getD k tCell.dflt).2.2.1, (((cs.set k (cs.getD k tCell.dflt)).set k ((cs.set k (cs.getD k tCell.dflt)).getD k tCell.dflt)).getD k tCell.dflt).2.2.2)))).getD k tCell.dflt).1, (((((cs.set k (cs.getD k tCell.dflt)).set k ((cs.set k (cs.getD k tCell.dflt)).getD k tCell.dflt)).set k ((((cs.set k (cs.getD k tCell.dflt)).set k ((cs.set k (cs.getD k tCell.dflt)).getD k tCell.dflt)).getD k tCell.dflt).1, ((((cs.set k (cs.getD k tCell.dflt)).set k ((cs.set k (cs.getD k tCell.dflt)).getD k tCell.dflt)).getD k tCell.dflt).2.1, ((cs.getD k tCell.dflt).2.2.1, (((cs.set k (cs.getD k tCell.dflt)).set k ((cs.set k (cs.getD k tCell.dflt)).getD k tCell.dflt)).getD k tCell.dflt).2.2.2)))).getD k tCell.dflt).2.1, (((((cs.set k (cs.getD k tCell.dflt)).set k ((cs.set k (cs.getD k tCell.dflt)).getD k tCell.dflt)).set k ((((cs.set k (cs.getD k tCell.dflt)).set k ((cs.set k (cs.getD k tCell.dflt)).getD k tCell.dflt)).getD k tCell.dflt).1, ((((cs.set k (cs.getD k tCell.dflt)).set k ((cs.set k (cs.getD k tCell.dflt)).getD k tCell.dflt)).getD k tCell.dflt).2.1, ((cs.getD k tCell.dflt).2.2.1, (((cs.set k (cs.getD k tCell.dflt)).set k ((cs.set k (cs.getD k tCell.dflt)).getD k tCell.dflt)).getD k tCell.dflt).2.2.2)))).getD k tCell.dflt).2.2.1, (cs.getD k tCell.dflt).2.2.2)))) hs (by simp only [pairEta, setSelf]; exact hcs) (by omega))
  | refine g_callH (AFunH.frameB [] (cloneKH_fun s.2.2.2.1 hs.threads) rfl rfl rfl rfl rfl rfl rfl) ?_
  | (refine g_stop (RunN.keep [0, 1, 2, 3, 4] (false :: true :: true :: true :: true :: F32 (F8 (false :: true :: true :: true :: F32 ([])))) n0 (by decide) rfl rfl ?_); refine RunN.less (env' := (.junk :: .c (.ptr 0 0 0 0) :: .c (.ptr 1 0 0 0) :: .c (.ptr 2 0 0 0) :: .c (.fnc (.fn0 83) (.ptr 2 0 0 0)) :: J32 (J8 (.junk :: .c (.osl 4 5 s.2.2.2.1.length) :: .c (.int .i64 ((s.2.2.2.1.length : Nat) : Int)) :: .c (.int .i64 ((0 : Nat) : Int)) :: J32 ([]))))) (H' := [.cells 40 (gKc10 s), .cells 40 gKc12, .cells 166 [.fn0 81], .nest 55 skCell cs none 0 [], .nest 57 skThread s.2.2.2.1 (some (0, 0)) 0 []]) (leAVs.same rfl) (⟨leB.refl _, leB.refl _, leB.refl _, ⟨rfl, ⟨rfl, by rfl⟩, .inr ⟨by simp only [Option.some.injEq, Prod.mk.injEq, and_true]; omega, rfl⟩, rfl, .inl rfl⟩, ⟨rfl, ⟨rfl, rfl⟩, .inl ⟨rfl, rfl⟩⟩, trivial⟩) ?_; exact own_l1 s 0 cs s.2.2.2.1 hs (by exact hcs) rfl (by omega))
  )
 termination_by s.1.length - k
 decreasing_by all_goals omega
theorem own_fun (s : EState) (hs : StSm s) : AFunH Tryz.prog 38 [.agg (tState.enc s)] [] (.agg (gKc9 s)) (gKc7 s) (List.range 6) :=
 AFunH.ofLO ocSc own_lv 3000 Tryz.func38 mixed rfl (by decide) (Nat.le_of_ble_eq_true rfl) rfl rfl (Nat.le_of_ble_eq_true rfl) (own_T s) (by kernel_rfl) fun hF => by
  have hbc := hs.cells
  have hbt := hs.threads
  have hcl := hs.cell
  have hhl := hs.thread
  unfold own_T
  refine g_callH (AFunH.frameB [] (cloneKC_fun s.1 hs.cells) rfl rfl rfl rfl rfl rfl rfl) ?_
  refine g_stop (RunN.keep [0, 1, 2, 3] (false :: true :: true :: true :: true :: F8 (F2 (true :: true :: true :: F32 (F16 (F8 (F4 (F2 (false :: [])))))))) n0 (by decide) rfl rfl ?_)
  refine RunN.less (env' := (.junk :: .c (.ptr 0 0 0 0) :: .c (.ptr 1 0 0 0) :: .c (.ptr 2 0 0 0) :: .c (.fnc (.fn0 83) (.ptr 2 0 0 0)) :: J8 (J2 (.c (.osl 3 4 s.1.length) :: .c (.int .i64 ((s.1.length : Nat) : Int)) :: .c (.int .i64 ((0 : Nat) : Int)) :: J32 (J16 (J8 (J4 (J2 (.junk :: []))))))))) (H' := [.cells 40 (gKc11 s), .cells 40 gKc12, .cells 166 [.fn0 81], .nest 55 skCell s.1 (some (0, 0)) 0 []]) (leAVs.same rfl) (⟨leB.refl _, leB.refl _, leB.refl _, ⟨rfl, ⟨rfl, rfl⟩, .inl ⟨rfl, rfl⟩⟩, trivial⟩) ?_
  exact own_l0 s 0 s.1 hs rfl (by omega)

end Go.Proofs.YtkonkblfckhcbaaGreatDoor
namespace Go.Proofs.YtkonkblfckhcbaaGreatDoor
set_option maxHeartbeats 4000000
set_option linter.unusedVariables false
set_option linter.unusedSimpArgs false
theorem frame_full {f : EFrame} {p : EProg} {tr : List (List (List EVal))} {wy : List (List Bool)} {s : EState} (h : frameF f p tr wy s = true) : f.2.2.2.2.2.2 = ((tr.getD (Int.toNat f.1) ((.slice (.slice tVal)) : Ty).dflt).getD (Int.toNat f.2.1) ((.slice tVal) : Ty).dflt) := by
 unfold frameF at h
 repeat' split at h
 all_goals first | (cases h; done) | assumption
theorem allT_20 {p : EProg} (h : codeF p = 0) (a b : Nat) : (((allT p.1).getD a ((.slice (.slice tVal)) : Ty).dflt).getD b ((.slice tVal) : Ty).dflt).length ≤ 20 := by
 by_cases ha : a < p.1.length
 ·have hj := (code_jumps h _ (getD_mem (α := EFn) (Ty.dflt tFn) ha)).1
  have e : (allT p.1).getD a (Ty.dflt (.slice (.slice tVal))) = triesT (p.1.getD a (Ty.dflt tFn)) := by simp [allT, List.getD, ha]
  rw [e]
  by_cases hb : b < (triesT (p.1.getD a (Ty.dflt tFn))).length
  ·have hm := getD_mem (α := List EVal) (Ty.dflt (.slice tVal)) hb
   unfold triesT at hm
   obtain ⟨q, hq, e2⟩ := List.mem_map.1 hm
   have := (triesF_ok hj).l20 q hq
   unfold triesT
   rw [← e2, List.length_map]
   exact this
  ·rw [List.getD_eq_getElem?_getD, List.getElem?_eq_none (by omega)]
   exact Nat.zero_le _
 ·have e : (allT p.1).getD a (Ty.dflt (.slice (.slice tVal))) = [] := by
   rw [List.getD_eq_getElem?_getD, List.getElem?_eq_none (by simp [allT]; omega)]; rfl
  rw [e]
  exact Nat.zero_le _
theorem frame_sm {f : EFrame} {p : EProg} {s : EState} (hc : codeF p = 0) (h : frameF f p (allT p.1) (allW p.1) s = true) : f.2.2.2.2.2.1.length ≤ 60 ∧ f.2.2.2.2.2.2.length ≤ 20 := by
 obtain ⟨h1, h2, h3, h4, h5⟩ := frame_parts h
 have hz := (large_fns (code_head hc).1 _ (getD_mem (α := EFn) (Ty.dflt tFn) (by omega : Int.toNat f.1 < p.1.length))).2
 refine ⟨?_, by rw [frame_full h]; exact allT_20 hc _ _⟩
 have h5 : (f.2.2.2.2.2.1.length : Int) = (p.1.getD (Int.toNat f.1) (Ty.dflt tFn)).2.1 := h5
 omega
theorem stStep_frame {fs : List EFrame} {p : EProg} {tr : List (List (List EVal))} {wy : List (List Bool)} {s : EState} {k n : Nat} {m : Int → Option Int} {a : Nat × (Int → Option Int)} (h : stStep fs p tr wy s k n m = some a) : frameF (fs.getD k tFrame.dflt) p tr wy s = true := by
 by_cases hf : frameF (fs.getD k tFrame.dflt) p tr wy s = true
 ·exact hf
 ·exfalso
  unfold stStep at h
  by_cases hk : (0 : Int) < ((k : Nat) : Int)
  ·rw [if_pos hk, if_neg hf] at h; cases h
  ·rw [if_neg hk, if_neg hf] at h; cases h
theorem stGo_frames {fs : List EFrame} {p : EProg} {tr : List (List (List EVal))} {wy : List (List Bool)} {s : EState} : ∀ (d k n : Nat) (m : Int → Option Int), fs.length - k = d → (stGo fs p tr wy s k n m).1 = true → ∀ q, k ≤ q → q < fs.length → frameF (fs.getD q tFrame.dflt) p tr wy s = true
 | 0, k, n, m, hd, h, q, h1, h2 => by omega
 | d + 1, k, n, m, hd, h, q, h1, h2 => by
  cases hs : stStep fs p tr wy s k n m with
  | none => rw [stGo_none (by omega) hs] at h; cases h
  | some a =>
   rw [stGo_some (by omega) hs] at h
   rcases Nat.lt_or_ge k q with hk | hk
   ·exact stGo_frames d (k + 1) a.1 a.2 (by omega) h q hk h2
   ·have : k = q := by omega
    subst this
    exact stStep_frame hs
theorem thr_stack {t : EThread} {p : EProg} {tr : List (List (List EVal))} {wy : List (List Bool)} {s : EState} {n : Nat} {m : Int → Option Int} (h : (thrF t p tr wy s n m).1 = true) : (stGo t.1 p tr wy s 0 n m).1 = true := by
 unfold thrF at h
 repeat' split at h
 all_goals first | (cases h; done) | exact h
theorem ixGo_all {l : List EThread} {p : EProg} {tr : List (List (List EVal))} {wy : List (List Bool)} {s : EState} : ∀ (d k n : Nat) (m : Int → Option Int), l.length - k = d → ¬ 0 ≤ (ixGo l p tr wy s k n m).1 → ∀ q, k ≤ q → q < l.length → ∃ n' m', (thrF (l.getD q (Ty.dflt tThread)) p tr wy s n' m').1 = true
 | 0, k, n, m, hd, h, q, h1, h2 => by omega
 | d + 1, k, n, m, hd, h, q, h1, h2 => by
  rw [ixGo, if_pos (by omega)] at h
  split at h
  ·exact absurd (Int.natCast_nonneg k) h
  ·rename_i hr
   rcases Nat.lt_or_ge k q with hk | hk
   ·exact ixGo_all d (k + 1) _ _ (by omega) h q hk h2
   ·have : k = q := by omega
    subst this
    refine ⟨n, m, ?_⟩
    unfold rg2F at hr
    simpa using hr
theorem stck_parts {p : EProg} {s : EState} (h : stckF p s = 0) : codeF p = 0 ∧ cckF s = 0 ∧ s.2.2.2.1.length ≤ 5 ∧ List.any s.2.2.2.1 (fun t => sck1F t) = false ∧ (rightF p (allT p.1) (allW p.1) s 0 (fun _ => none)).1 = true := by
 unfold stckF at h
 split at h
 ·rename_i h0
  split at h
  ·rename_i h1
   split at h
   ·cases h
   ·rename_i h2
    split at h
    ·cases h
    ·rename_i h3
     split at h
     ·rename_i h4
      exact ⟨h0, h1, by omega, by simpa using h3, h4⟩
     ·cases h
  ·rename_i h1; exact absurd h h1
 ·rename_i h0; exact absurd h h0
theorem right_parts {p : EProg} {tr : List (List (List EVal))} {wy : List (List Bool)} {s : EState} {n : Nat} {m : Int → Option Int} (h : (rightF p tr wy s n m).1 = true) : swithinF s.2.2.2.2.2.2.2 0 1000000000 = true ∧ swithinF s.2.2.2.2.2.2.1 0 1000000000 = true ∧ List.any s.1 (fun c => rg1F c p tr wy s) = false ∧ (¬ 0 ≤ (ixGo s.2.2.2.1 p tr wy s 0 n m).1) ∧ p.2.2 = s.2.2.1.take p.2.2.length := by
 unfold rightF at h
 split at h
 ·cases h
 ·split at h
  ·rename_i h0
   split at h
   ·rename_i h1
    split at h
    ·rename_i h2
     split at h
     ·cases h
     ·split at h
      ·cases h
      ·rename_i h3
       split at h
       ·cases h
       ·rename_i h4
        exact ⟨h1, h2, by simpa using h3, h4, h0.symm⟩
    ·cases h
   ·cases h
  ·cases h
theorem getD_of_mem {α : Type} {l : List α} {x : α} (d : α) (h : x ∈ l) : ∃ k, k < l.length ∧ l.getD k d = x := by
 obtain ⟨k, hk, e⟩ := List.getElem_of_mem h
 exact ⟨k, hk, by simp [List.getD, hk, e]⟩
/-- All frames of a right state's threads are right. -/
theorem thread_frames {p : EProg} {s : EState} (h : stckF p s = 0) : ∀ t ∈ s.2.2.2.1, ∀ f ∈ t.1, frameF f p (allT p.1) (allW p.1) s = true := by
 intro t ht f hf
 obtain ⟨_, _, _, _, h5⟩ := stck_parts h
 obtain ⟨_, _, _, h4, _⟩ := right_parts h5
 obtain ⟨k, hk, rfl⟩ := getD_of_mem (Ty.dflt tThread) ht
 obtain ⟨n', m', h6⟩ := ixGo_all (l := s.2.2.2.1) _ 0 0 _ rfl h4 k (Nat.zero_le _) hk
 have h7 := thr_stack h6
 obtain ⟨q, hq, rfl⟩ := getD_of_mem (Ty.dflt tFrame) hf
 exact stGo_frames _ 0 n' m' rfl h7 q (Nat.zero_le _) hq
theorem cell_frames {c : ECell} {s : EState} (h : ccellF c s = true) : c.2.2.2.length ≤ 1 ∧ (c.2.2.2.length = 1 → c.1 = 5 ∧ c.2.1 = 0) := by
 unfold ccellF at h
 rcases Classical.em (c.1 = 0) with k | k0
 ·rw [if_pos k] at h
  repeat' split at h
  all_goals first | (cases h; done) | (refine ⟨?_, fun h1 => ⟨?_, ?_⟩⟩ <;> omega)
 rw [if_neg k0] at h
 rcases Classical.em (c.1 = 1) with k | k1
 ·rw [if_pos k] at h
  repeat' split at h
  all_goals first | (cases h; done) | (refine ⟨?_, fun h1 => ⟨?_, ?_⟩⟩ <;> omega)
 rw [if_neg k1] at h
 rcases Classical.em (c.1 = 2) with k | k2
 ·rw [if_pos k] at h
  repeat' split at h
  all_goals first | (cases h; done) | (refine ⟨?_, fun h1 => ⟨?_, ?_⟩⟩ <;> omega)
 rw [if_neg k2] at h
 rcases Classical.em (c.1 = 3) with k | k3
 ·rw [if_pos k] at h
  repeat' split at h
  all_goals first | (cases h; done) | (refine ⟨?_, fun h1 => ⟨?_, ?_⟩⟩ <;> omega)
 rw [if_neg k3] at h
 rcases Classical.em (c.1 = 4) with k | k4
 ·rw [if_pos k] at h
  repeat' split at h
  all_goals first | (cases h; done) | (refine ⟨?_, fun h1 => ⟨?_, ?_⟩⟩ <;> omega)
 rw [if_neg k4] at h
 rcases Classical.em (c.1 = 5) with k | k5
 ·rw [if_pos k] at h
  repeat' split at h
  all_goals first | (cases h; done) | (refine ⟨?_, fun h1 => ⟨?_, ?_⟩⟩ <;> omega)
 rw [if_neg k5] at h
 rcases Classical.em (c.1 = 6) with k | k6
 ·rw [if_pos k] at h
  repeat' split at h
  all_goals first | (cases h; done) | (refine ⟨?_, fun h1 => ⟨?_, ?_⟩⟩ <;> omega)
 rw [if_neg k6] at h
 rcases Classical.em (c.1 = 7) with k | k7
 ·rw [if_pos k] at h
  repeat' split at h
  all_goals first | (cases h; done) | (refine ⟨?_, fun h1 => ⟨?_, ?_⟩⟩ <;> omega)
 rw [if_neg k7] at h
 cases h
theorem heap_saved {c : ECell} {p : EProg} {tr : List (List (List EVal))} {wy : List (List Bool)} {s : EState} (h : heapF c p tr wy s = true) (h5 : c.1 = 5) (h0 : c.2.1 = 0) : frameF (c.2.2.2.getD 0 tFrame.dflt) p tr wy s = true := by
 unfold heapF at h
 rw [if_neg (by omega), if_pos h5, if_pos h0] at h
 unfold savedF at h
 split at h
 ·assumption
 ·cases h
theorem StSm.of {p : EProg} {s : EState} (h : stckF p s = 0) : StSm s := by
 obtain ⟨h1, h2, h3, h4, h5⟩ := stck_parts h
 obtain ⟨r1, r2, r3, r4, _⟩ := right_parts h5
 obtain ⟨c1, c2, c3, c4, c5, c6, c7⟩ := cck_parts h2
 have hl := sck_le h4
 have hlg : s.1.length ≤ 300 ∧ s.2.2.1.length ≤ 300 ∧ s.2.2.2.2.2.1.length ≤ 200 ∧ s.2.2.2.2.1.length ≤ 100 ∧ ∀ c ∈ s.1, lg2F c = false := by
  unfold clargeF at c1
  split at c1
  ·cases c1
  ·split at c1
   ·cases c1
   ·split at c1
    ·cases c1
    ·split at c1
     ·cases c1
     ·split at c1
      ·cases c1
      ·refine ⟨by omega, by omega, by omega, by omega, fun c hc => ?_⟩
       have := List.any_eq_false.1 c1 c hc
       simpa using this
 obtain ⟨l1, l2, l3, l4, l5⟩ := hlg
 have hfr : ∀ f, frameF f p (allT p.1) (allW p.1) s = true → f.2.2.2.2.2.1.length ≤ 1000 ∧ f.2.2.2.2.2.2.length ≤ 1000 := fun f hf => by
  have := frame_sm h1 hf
  omega
 refine ⟨by omega, fun c hc => ⟨?_, ?_, fun f hf => ?_⟩, ?_, by omega, by omega, fun t ht => ⟨by have := hl t ht; omega, fun f hf => hfr f (thread_frames h t ht f hf)⟩, by omega, by omega⟩
 ·have := l5 c hc
  unfold lg2F at this
  repeat' split at this
  all_goals first | (cases this; done) | omega | (simp at this; omega)
 ·have := (cell_frames (cck_cell h2 c hc)).1; omega
 ·obtain ⟨q1, q2⟩ := cell_frames (cck_cell h2 c hc)
  obtain ⟨k, hk, rfl⟩ := getD_of_mem (Ty.dflt tFrame) hf
  obtain ⟨q3, q4⟩ := q2 (by omega)
  have : k = 0 := by omega
  subst this
  have hh := List.any_eq_false.1 r3 c hc
  unfold rg1F at hh
  exact hfr _ (heap_saved (by simpa using hh) q3 q4)
 ·unfold shCheck at c2
  split at c2
  ·cases c2
  ·omega
end Go.Proofs.YtkonkblfckhcbaaGreatDoor
namespace Go.Proofs.YtkonkblfckhcbaaGreatDoor
set_option maxHeartbeats 4000000
set_option linter.unusedVariables false
set_option linter.unusedSimpArgs false
set_option maxRecDepth 100000
def standsF (t : ETrace) (s : EState) (th : Int) : Bool :=
 if th < 0 then
  false
 else
  if (s.2.2.2.1.length : Int) ≤ th then
   false
  else
   if (s.2.2.2.1.getD (Int.toNat th) tThread.dflt).2.1 = 0 then
    if (0 : Int) < ((s.2.2.2.1.getD (Int.toNat th) tThread.dflt).1.length : Int) then
     if ((s.2.2.2.1.getD (Int.toNat th) tThread.dflt).1.getD (Int.toNat (((s.2.2.2.1.getD (Int.toNat th) tThread.dflt).1.length : Int) - 1)) tFrame.dflt).1 = t.1 then
      decide (((s.2.2.2.1.getD (Int.toNat th) tThread.dflt).1.getD (Int.toNat (((s.2.2.2.1.getD (Int.toNat th) tThread.dflt).1.length : Int) - 1)) tFrame.dflt).2.1 = t.2.1)
     else
      false
    else
     false
   else
    false
noncomputable def ocUc : Orc where
 pure := fun f args => match f, args with
  | _, _ => none
 heap := fun _ _ _ => none
def stands_lv : LV := ⟨([]), []⟩
abbrev gKd0 (t : ETrace) (s : EState) (th : Int) : List AB := [.cells 34 (Ty.enc tTrace t), .cells 40 (Ty.enc tState s), .cells 57 (Ty.enc tThread (s.2.2.2.1.getD (Int.toNat th) tThread.dflt))]
noncomputable def stands_T (t : ETrace) (s : EState) (th : Int) : Tree :=
 .ite (decide (th < 0))
 (.ret (.c (.lit false)) [.cells 34 (Ty.enc tTrace t), .cells 40 (Ty.enc tState s)])
 (.ite (decide ((s.2.2.2.1.length : Int) ≤ th))
  (.ret (.c (.lit false)) [.cells 34 (Ty.enc tTrace t), .cells 40 (Ty.enc tState s)])
  (.need ((0 : Int) ≤ th ∧ (th : Int) < (s.2.2.2.1.length : Int)) <|
  .need ((Int.toNat th) < s.2.2.2.1.length) <|
  .ite (decide ((s.2.2.2.1.getD (Int.toNat th) tThread.dflt).2.1 = 0))
  (.ite (decide ((0 : Int) < ((s.2.2.2.1.getD (Int.toNat th) tThread.dflt).1.length : Int)))
   (.need (inR .i64 (((s.2.2.2.1.getD (Int.toNat th) tThread.dflt).1.length : Int) - 1)) <|
   .need ((0 : Int) ≤ (((s.2.2.2.1.getD (Int.toNat th) tThread.dflt).1.length : Int) - 1) ∧ ((((s.2.2.2.1.getD (Int.toNat th) tThread.dflt).1.length : Int) - 1) : Int) < ((s.2.2.2.1.getD (Int.toNat th) tThread.dflt).1.length : Int)) <|
   .need ((Int.toNat (((s.2.2.2.1.getD (Int.toNat th) tThread.dflt).1.length : Int) - 1)) < (s.2.2.2.1.getD (Int.toNat th) tThread.dflt).1.length) <|
   .ite (decide (((s.2.2.2.1.getD (Int.toNat th) tThread.dflt).1.getD (Int.toNat (((s.2.2.2.1.getD (Int.toNat th) tThread.dflt).1.length : Int) - 1)) tFrame.dflt).1 = t.1))
   (.need (inR .i64 (((s.2.2.2.1.getD (Int.toNat th) tThread.dflt).1.length : Int) - 1)) <|
    .need ((0 : Int) ≤ (((s.2.2.2.1.getD (Int.toNat th) tThread.dflt).1.length : Int) - 1) ∧ ((((s.2.2.2.1.getD (Int.toNat th) tThread.dflt).1.length : Int) - 1) : Int) < ((s.2.2.2.1.getD (Int.toNat th) tThread.dflt).1.length : Int)) <|
    .need ((Int.toNat (((s.2.2.2.1.getD (Int.toNat th) tThread.dflt).1.length : Int) - 1)) < (s.2.2.2.1.getD (Int.toNat th) tThread.dflt).1.length) <|
    .ret (.c (.bool (decide (((s.2.2.2.1.getD (Int.toNat th) tThread.dflt).1.getD (Int.toNat (((s.2.2.2.1.getD (Int.toNat th) tThread.dflt).1.length : Int) - 1)) tFrame.dflt).2.1 = t.2.1)))) (gKd0 t s th))
   (.ret (.c (.lit false)) (gKd0 t s th)))
   (.ret (.c (.lit false)) (gKd0 t s th)))
  (.ret (.c (.lit false)) (gKd0 t s th))))
theorem stands_fun (t : ETrace) (s : EState) (th : Int) : AFun Tryz.prog 37 [.agg (tTrace.enc t), .agg (tState.enc s), .c (.int .i64 th)] (.c (.bool (standsF t s th))) :=
 AFun.of ocUc stands_lv 3000 Tryz.func37 mixed rfl (by decide) (Nat.le_of_ble_eq_true rfl) (stands_T t s th) (by kernel_rfl) fun hF => by
  have q1 : Ty.ok tState s := hF.cons.2.agg.1
  unfold stands_T
  repeat' first
  | with_reducible refine g_iteD (fun h => ?_) (fun h => ?_)
  | refine g_need (by first | omega | (constructor <;> omega) | rfl | (have q2 := (q1.2.2.2.1.2 _ (getD_mem (α := EThread) (Ty.dflt tThread) (by omega : Int.toNat th < s.2.2.2.1.length))).1.1; first | omega | (constructor <;> omega) | (rw [i64_iff]; omega))) ?_
  | (exact g_retl (by first | (simp only [standsF, *, if_true, if_false, Bool.false_eq_true, reduceCtorEq]; done) | rfl | (simp only [standsF, *, if_true, if_false, Bool.false_eq_true, reduceCtorEq]; done) | (simp only [standsF, *, if_true, if_false, Bool.false_eq_true, reduceCtorEq]; exact ⟨⟨rfl⟩, rfl, trivial⟩) | (simp only [standsF, *, if_true, if_false, Bool.false_eq_true, reduceCtorEq]; simp; done)))
  | (exact g_retb (by first | (simp only [standsF, *, if_true, if_false, Bool.false_eq_true, reduceCtorEq]; done) | rfl | (simp only [standsF, *, if_true, if_false, Bool.false_eq_true, reduceCtorEq]; done) | (simp only [standsF, *, if_true, if_false, Bool.false_eq_true, reduceCtorEq]; exact ⟨⟨rfl⟩, rfl, trivial⟩) | (simp only [standsF, *, if_true, if_false, Bool.false_eq_true, reduceCtorEq]; simp; done)))

end Go.Proofs.YtkonkblfckhcbaaGreatDoor
namespace Go.Proofs.YtkonkblfckhcbaaGreatDoor
set_option linter.unusedVariables false
set_option linter.unusedSimpArgs false
theorem insF_iff {c : EChk} : ∀ {l : List EIns} {k : Nat}, insF c k l = 0 ↔ ∀ (i : Nat) (x : EIns), l[i]? = some x → (ofF x.1).2 = true ∧ formedF c (ofF x.1).1 x (k + i : Nat) = true
 | [], k => by unfold insF; simp
 | y :: r, k => by
  constructor
  ·exact fun h => insF_at h
  ·intro h
   have h0 := h 0 y rfl
   unfold insF
   rw [if_neg (by simp [h0.1]), if_neg (by have := h0.2; simp at this; simp [this])]
   refine insF_iff.2 fun i x hx => ?_
   have := h (i + 1) x (by simpa using hx)
   rwa [show k + (i + 1) = k + 1 + i by omega] at this
theorem exitsF_iff {c : EChk} {n : Int} : ∀ {l : List EExit}, exitsF c n l = 0 ↔ ∀ x ∈ l, rightXF c x n = true
 | [] => by unfold exitsF; simp
 | y :: r => by
  unfold exitsF
  by_cases h : rightXF c y n = true
  ·rw [if_neg (by simp [h])]
   rw [exitsF_iff]
   simp [h]
  ·rw [if_pos (by simpa using h)]
   constructor
   ·intro h; cases h
   ·intro q; exact absurd (q y (by simp)) h
/-- The checker of a trace. -/
def chkOf (p : EProg) (t : ETrace) : EChk := (p.1.getD (Int.toNat t.1) tFn.dflt, t)
structure CheckOk (p : EProg) (t : ETrace) : Prop where
 code : codeF p = 0
 n : t.2.2.2.1.length ≤ 300
 m : t.2.2.2.2.1.length ≤ 200
 fn0 : 0 ≤ t.1
 fn1 : t.1 < (p.1.length : Int)
 at0 : 0 ≤ t.2.1
 at1 : t.2.1 < ((chkOf p t).1.2.2.2.2.length : Int)
 loop0 : 0 ≤ t.2.2.1
 loop1 : t.2.2.1 ≤ (t.2.2.2.1.length : Int)
 ins : ∀ (i : Nat) (x : EIns), t.2.2.2.1[i]? = some x → (ofF x.1).2 = true ∧ formedF (chkOf p t) (ofF x.1).1 x (i : Nat) = true
 turn0 : t.2.2.1 = 0 → bareF t.2.2.2.2.2.1 = true
 turn1 : 0 < t.2.2.1 → t.2.2.2.2.2.1.1 = t.2.1 ∧ rightXF (chkOf p t) t.2.2.2.2.2.1 t.2.2.1 = true
 back : t.2.2.2.2.2.2.1 = t.2.1 ∧ rightXF (chkOf p t) t.2.2.2.2.2.2 (t.2.2.2.1.length : Int) = true
 exits : ∀ x ∈ t.2.2.2.2.1, rightXF (chkOf p t) x (t.2.2.2.1.length : Int) = true
theorem sizeOk_iff {t : ETrace} : sizeOk t = true ↔ t.2.2.2.1.length ≤ 300 ∧ t.2.2.2.2.1.length ≤ 200 := by
 unfold sizeOk
 by_cases h1 : (300 : Int) < (t.2.2.2.1.length : Int)
 ·rw [if_pos h1]; exact ⟨fun h => (by cases h), fun h => absurd h.1 (by omega)⟩
 ·rw [if_neg h1]
  by_cases h2 : (200 : Int) < (t.2.2.2.2.1.length : Int)
  ·rw [if_pos h2]; exact ⟨fun h => (by cases h), fun h => absurd h.2 (by omega)⟩
  ·rw [if_neg h2]; exact ⟨fun _ => ⟨by omega, by omega⟩, fun _ => rfl⟩
theorem headOk_iff {p : EProg} {t : ETrace} : headOk p t = true ↔ 0 ≤ t.1 ∧ t.1 < (p.1.length : Int) ∧ 0 ≤ t.2.1 ∧ t.2.1 < ((chkOf p t).1.2.2.2.2.length : Int) ∧ 0 ≤ t.2.2.1 ∧ t.2.2.1 ≤ (t.2.2.2.1.length : Int) := by
 unfold headOk
 repeat' split
 all_goals first
  | (refine ⟨fun _ => ⟨?_, ?_, ?_, ?_, ?_, ?_⟩, fun _ => rfl⟩ <;> (try simp only [chkOf]) <;> omega)
  | (simp only [false_iff, Bool.false_eq_true]; rintro ⟨q1, q2, q3, q4, q5, q6⟩; simp only [chkOf] at q4; omega)
theorem turnOk_iff {c : EChk} {t : ETrace} (h0 : 0 ≤ t.2.2.1) : turnOk c t = true ↔ (t.2.2.1 = 0 → bareF t.2.2.2.2.2.1 = true) ∧ (0 < t.2.2.1 → t.2.2.2.2.2.1.1 = t.2.1 ∧ rightXF c t.2.2.2.2.2.1 t.2.2.1 = true) := by
 unfold turnOk
 by_cases h : t.2.2.1 = 0
 ·rw [if_pos h, if_neg (by omega)]
  simp [h]
 ·rw [if_neg h, if_pos (by omega)]
  simp [h, show 0 < t.2.2.1 by omega]
theorem check_iff {p : EProg} {t : ETrace} : checkF p t = 0 ↔ CheckOk p t := by
 constructor
 ·intro h
  unfold checkF at h
  split at h
  ·rename_i hc
   unfold check4F at h
   split at h
   ·rename_i hs
    split at h
    ·rename_i hh
     unfold bodyF thenF at h
     split at h
     ·rename_i hi
      unfold end1F at h
      split at h
      ·rename_i ht
       unfold end2F at h
       split at h
       ·rename_i hb
        obtain ⟨s1, s2⟩ := sizeOk_iff.1 hs
        obtain ⟨q1, q2, q3, q4, q5, q6⟩ := headOk_iff.1 hh
        obtain ⟨t1, t2⟩ := (turnOk_iff q5).1 ht
        unfold backOk at hb
        rw [Bool.and_eq_true, decide_eq_true_eq] at hb
        exact ⟨hc, s1, s2, q1, q2, q3, q4, q5, q6, fun i x hx => by have := insF_iff.1 hi i x hx; rw [Nat.zero_add] at this; exact this, t1, t2, hb, exitsF_iff.1 h⟩
       ·cases h
      ·cases h
     ·rename_i hi; exact absurd h hi
    ·cases h
   ·cases h
  ·rename_i hc; exact absurd h hc
 ·rintro ⟨hc, s1, s2, q1, q2, q3, q4, q5, q6, hi, t1, t2, hb, he⟩
  have e : checkF p t = (if codeF p = 0 then (if sizeOk t = true then (if headOk p t = true then bodyF (chkOf p t) t else 3) else 2) else codeF p) := rfl
  rw [e, if_pos hc, if_pos (sizeOk_iff.2 ⟨s1, s2⟩), if_pos (headOk_iff.2 ⟨q1, q2, q3, q4, q5, q6⟩)]
  unfold bodyF thenF
  rw [if_pos (insF_iff.2 fun i x hx => by have := hi i x hx; rw [Nat.zero_add]; exact this)]
  unfold end1F
  rw [if_pos ((turnOk_iff q5).2 ⟨t1, t2⟩)]
  unfold end2F
  rw [if_pos (by unfold backOk; rw [Bool.and_eq_true, decide_eq_true_eq]; exact hb)]
  exact exitsF_iff.2 he
theorem code_regs {p : EProg} (h : codeF p = 0) : ∀ f ∈ p.1, f.2.2.2.2.length ≤ 600 ∧ f.2.1 ≤ 60 := by
 refine large_fns ?_
 cases hl : largeF (toProg p) with
 | false => rfl
 | true =>
  unfold codeF at h
  rw [if_pos hl] at h
  exact absurd h (by decide)
theorem CheckOk.regs {p : EProg} {t : ETrace} (h : CheckOk p t) : (chkOf p t).1.2.1 ≤ 60 := by
 have h0 := h.fn0
 have h1 := h.fn1
 exact (code_regs h.code _ (getD_mem (α := EFn) (Ty.dflt tFn) (by omega : Int.toNat t.1 < p.1.length))).2
end Go.Proofs.YtkonkblfckhcbaaGreatDoor
namespace Go.Proofs.YtkonkblfckhcbaaGreatDoor
set_option maxHeartbeats 4000000
set_option linter.unusedVariables false
set_option linter.unusedSimpArgs false
set_option maxRecDepth 100000
noncomputable def ocUa : Orc where
 pure := fun f args => match f, args with
  | _, _ => none
 heap := fun f args H => match f, args with
  | 91, [.one (.c (.ptr b0 0 0 0)), a1, a2, a3] => (match cellsAs 90 H[b0]? with
   | some [c0_0_0, c0_0_1, c0_0_2, c0_0_3, c0_0_4, c0_0_5, c0_0_6, c0_0_7, c0_0_8, c0_0_9, c0_0_10, c0_0_11, c0_0_12, .osl b1 4 _, .osl b2 2 _, .ptr b3 8 i0_3 0, c0_4, .sl b4 2 0 n0_5] => (match dA tI a1, dA tI a2, dA tExit a3, dCs tTrace [c0_0_0, c0_0_1, c0_0_2, c0_0_3, c0_0_4, c0_0_5, c0_0_6, c0_0_7, c0_0_8, c0_0_9, c0_0_10, c0_0_11, c0_0_12], dC tI c0_4, nestAs 55 skCell H[b1]?, ovecAs 51 tVal H[b2]?, nestAs 61 skFrame H[b3]?, vecAs 48 tVal H[b4]? with
    | some x1, some x2, some x3, some y0_0, some y0_4, some y1, some y2, some y3, some y4 => hres [b0, b1, b2, b3, b4] H (.tup [.c (.int .i64 (0)), .c (.int .i64 (0))]) [.cells 90 [.int .i64 y0_0.1, .int .i64 y0_0.2.1, .int .i64 y0_0.2.2.1, .ro tIns y0_0.2.2.2.1, .ro tExit y0_0.2.2.2.2.1, .int .i64 y0_0.2.2.2.2.2.1.1, .int .i64 y0_0.2.2.2.2.2.1.2.1, .ro tVal y0_0.2.2.2.2.2.1.2.2.1, .ro tMake y0_0.2.2.2.2.2.1.2.2.2, .int .i64 y0_0.2.2.2.2.2.2.1, .int .i64 y0_0.2.2.2.2.2.2.2.1, .ro tVal y0_0.2.2.2.2.2.2.2.2.1, .ro tMake y0_0.2.2.2.2.2.2.2.2.2, .osl 1 4 y1.length, .osl 2 2 y2.length, .ptr 3 8 i0_3 0, .int .i64 y0_4, .sl 4 2 0 n0_5], .nest 55 skCell y1 none 0 [], .ovec 51 tVal y2, .nest 61 skFrame y3 none 0 [], .vec 48 tVal y4]
    | _, _, _, _, _, _, _, _, _ => none)
   | _ => none)
  | _, _ => none
def run0_lv : LV := ⟨(true :: true :: F2 (false :: true :: F32 (F16 (F8 (F4 (F2 (false :: []))))))), []⟩
abbrev gKe3 (t : ETrace) (cs : List ECell) (sh : List EVal) (i : Nat) (n : Int) (nv : Nat) (fr : List EFrame) (vs : List EVal) : List AB := [.cells 90 [.int .i64 t.1, .int .i64 t.2.1, .int .i64 t.2.2.1, .ro tIns t.2.2.2.1, .ro tExit t.2.2.2.2.1, .int .i64 t.2.2.2.2.2.1.1, .int .i64 t.2.2.2.2.2.1.2.1, .ro tVal t.2.2.2.2.2.1.2.2.1, .ro tMake t.2.2.2.2.2.1.2.2.2, .int .i64 t.2.2.2.2.2.2.1, .int .i64 t.2.2.2.2.2.2.2.1, .ro tVal t.2.2.2.2.2.2.2.2.1, .ro tMake t.2.2.2.2.2.2.2.2.2, .osl 1 4 cs.length, .osl 2 2 sh.length, .ptr 3 8 i 0, .int .i64 n, .sl 4 2 0 nv], .nest 55 skCell cs none 0 [], .ovec 51 tVal sh, .nest 61 skFrame fr none 0 [], .vec 48 tVal vs]
noncomputable def run0_T (t : ETrace) (cs : List ECell) (sh : List EVal) (fr : List EFrame) (i : Nat) (n : Int) (nv : Nat) (vs : List EVal) (turns : Int) : Tree :=
 .stop (lp (bodyOf Tryz.f39) 0) (.c (.ptr 0 0 0 0) :: .c (.int .i64 turns) :: J2 (.junk :: .c (.int .i64 0) :: J32 (J16 (J8 (J4 (J2 (.junk :: []))))))) (gKe3 t cs sh i n nv fr vs)
abbrev gKe1 (t : ETrace) (cs : List ECell) (sh : List EVal) (i : Nat) (n : Int) (nv : Nat) (fr : List EFrame) (vs : List EVal) : List AB := [.cells 90 [.int .i64 t.1, .int .i64 t.2.1, .int .i64 t.2.2.1, .ro tIns t.2.2.2.1, .ro tExit t.2.2.2.2.1, .int .i64 t.2.2.2.2.2.1.1, .int .i64 t.2.2.2.2.2.1.2.1, .ro tVal t.2.2.2.2.2.1.2.2.1, .ro tMake t.2.2.2.2.2.1.2.2.2, .int .i64 t.2.2.2.2.2.2.1, .int .i64 t.2.2.2.2.2.2.2.1, .ro tVal t.2.2.2.2.2.2.2.2.1, .ro tMake t.2.2.2.2.2.2.2.2.2, .osl 1 4 cs.length, .osl 2 2 sh.length, .ptr 3 8 i 0, .int .i64 n, .sl 4 2 0 nv], .nest 55 skCell cs none 0 [], .ovec 51 tVal sh, .nest 61 skFrame fr none 0 [], .vec 48 tVal vs, .cells 32 (Ty.enc tExit t.2.2.2.2.2.1)]
abbrev gKe2 (t : ETrace) (cs : List ECell) (sh : List EVal) (i : Nat) (n : Int) (nv : Nat) (fr : List EFrame) (vs : List EVal) : List AB := [.cells 90 [.int .i64 t.1, .int .i64 t.2.1, .int .i64 t.2.2.1, .ro tIns t.2.2.2.1, .ro tExit t.2.2.2.2.1, .int .i64 t.2.2.2.2.2.1.1, .int .i64 t.2.2.2.2.2.1.2.1, .ro tVal t.2.2.2.2.2.1.2.2.1, .ro tMake t.2.2.2.2.2.1.2.2.2, .int .i64 t.2.2.2.2.2.2.1, .int .i64 t.2.2.2.2.2.2.2.1, .ro tVal t.2.2.2.2.2.2.2.2.1, .ro tMake t.2.2.2.2.2.2.2.2.2, .osl 1 4 cs.length, .osl 2 2 sh.length, .ptr 3 8 i 0, .int .i64 n, .sl 4 2 0 nv], .nest 55 skCell cs none 0 [], .ovec 51 tVal sh, .nest 61 skFrame fr none 0 [], .vec 48 tVal vs, .cells 32 (Ty.enc tExit t.2.2.2.2.2.2)]
noncomputable def run0_l0_R (t : ETrace) (cs : List ECell) (sh : List EVal) (fr : List EFrame) (i : Nat) (n : Int) (nv : Nat) (vs : List EVal) (turns : Int) : Tree :=
 .ite (decide ((0 : Int) < turns))
 (.ite (decide (0 = 0))
  (.ite (decide ((0 : Int) < t.2.2.1))
  (.callH 91 [.c (.ptr 0 0 0 0), .c (.int .i64 0), .c (.int .i64 t.2.2.1), .agg (Ty.enc tExit t.2.2.2.2.2.1)] (gKe1 t cs sh i n nv fr vs) (.tup [.c (.int .i64 0), .c (.int .i64 0)]) (gKe1 t cs sh i n nv fr vs) [0, 1, 2, 3, 4] <|
   .ite (decide (0 = 2))
   (.ret (.tup [.c (.int .i64 0), .c (.int .i64 0), .c (.int .i64 0)]) (gKe1 t cs sh i n nv fr vs))
   (.ite (decide ((0 : Int) ≤ 0))
   (.ret (.tup [.c (.int .i64 0), .c (.int .i64 0), .c (.int .i64 0)]) (gKe1 t cs sh i n nv fr vs))
   (.need (inR .i64 (0 + 1)) <|
    .stop (lp (bodyOf Tryz.f39) 0) (.c (.ptr 0 0 0 0) :: .c (.int .i64 turns) :: J2 (.junk :: .c (.int .i64 (0 + 1)) :: J32 (J16 (J8 (J4 (J2 (.junk :: []))))))) (gKe1 t cs sh i n nv fr vs))))
  (.callH 91 [.c (.ptr 0 0 0 0), .c (.int .i64 t.2.2.1), .c (.int .i64 (t.2.2.2.1.length : Int)), .agg (Ty.enc tExit t.2.2.2.2.2.2)] (gKe2 t cs sh i n nv fr vs) (.tup [.c (.int .i64 0), .c (.int .i64 0)]) (gKe2 t cs sh i n nv fr vs) [0, 1, 2, 3, 4] <|
   .ite (decide (0 = 2))
   (.ret (.tup [.c (.int .i64 0), .c (.int .i64 0), .c (.int .i64 0)]) (gKe2 t cs sh i n nv fr vs))
   (.ite (decide ((0 : Int) ≤ 0))
   (.ret (.tup [.c (.int .i64 0), .c (.int .i64 0), .c (.int .i64 0)]) (gKe2 t cs sh i n nv fr vs))
   (.need (inR .i64 (0 + 1)) <|
    .stop (lp (bodyOf Tryz.f39) 0) (.c (.ptr 0 0 0 0) :: .c (.int .i64 turns) :: J2 (.junk :: .c (.int .i64 (0 + 1)) :: J32 (J16 (J8 (J4 (J2 (.junk :: []))))))) (gKe2 t cs sh i n nv fr vs)))))
  (.callH 91 [.c (.ptr 0 0 0 0), .c (.int .i64 t.2.2.1), .c (.int .i64 (t.2.2.2.1.length : Int)), .agg (Ty.enc tExit t.2.2.2.2.2.2)] (gKe2 t cs sh i n nv fr vs) (.tup [.c (.int .i64 0), .c (.int .i64 0)]) (gKe2 t cs sh i n nv fr vs) [0, 1, 2, 3, 4] <|
  .ite (decide (0 = 2))
  (.ret (.tup [.c (.int .i64 0), .c (.int .i64 0), .c (.int .i64 0)]) (gKe2 t cs sh i n nv fr vs))
  (.ite (decide ((0 : Int) ≤ 0))
   (.ret (.tup [.c (.int .i64 0), .c (.int .i64 0), .c (.int .i64 0)]) (gKe2 t cs sh i n nv fr vs))
   (.need (inR .i64 (0 + 1)) <|
   .stop (lp (bodyOf Tryz.f39) 0) (.c (.ptr 0 0 0 0) :: .c (.int .i64 turns) :: J2 (.junk :: .c (.int .i64 (0 + 1)) :: J32 (J16 (J8 (J4 (J2 (.junk :: []))))))) (gKe2 t cs sh i n nv fr vs)))))
 (.ret (.tup [.c (.int .i64 (-1)), .c (.int .i64 0), .c (.int .i64 0)]) (gKe3 t cs sh i n nv fr vs))
theorem run0_l0 (t : ETrace) (cs : List ECell) (sh : List EVal) (fr : List EFrame) (i : Nat) (n : Int) (nv : Nat) (vs : List EVal) (turns : Int) (h : turns = 0) : RunN 5 Tryz.prog 39 (absQ (finO Tryz.prog 5 (.tup [.c (.int .i64 ((-1))), .c (.int .i64 (0)), .c (.int .i64 (0))]) (gKe3 t cs sh i n nv fr vs))) (lp (bodyOf Tryz.f39) 0) (.c (.ptr 0 0 0 0) :: .c (.int .i64 turns) :: J2 (.junk :: .c (.int .i64 0) :: J32 (J16 (J8 (J4 (J2 (.junk :: []))))))) (gKe3 t cs sh i n nv fr vs) :=
 Run.roundA ocUa run0_lv 3000 Tryz.func39 mixed (run0_l0_R t cs sh fr i n nv vs turns) (by kernel_rfl) (by
  unfold run0_l0_R
  refine g_iteD (fun h0 => ?_) (fun h0 => ?_)
  ·exact absurd h0 (by omega)
  ·refine g_ab0 ?_
   exact g_endO [0, 1, 2, 3, 4] (kk rfl) (by decide) (leAV.refl _) ⟨leB.refl _, leB.refl _, leB.refl _, leB.refl _, leB.refl _, trivial⟩
  )
theorem run0_fun (t : ETrace) (cs : List ECell) (sh : List EVal) (fr : List EFrame) (i : Nat) (n : Int) (nv : Nat) (vs : List EVal) (turns : Int) (h : turns = 0) : AFunH Tryz.prog 39 [.c (.ptr 0 0 0 0), .c (.int .i64 turns)] (gKe3 t cs sh i n nv fr vs) (.tup [.c (.int .i64 ((-1))), .c (.int .i64 (0)), .c (.int .i64 (0))]) (gKe3 t cs sh i n nv fr vs) (List.range 5) :=
 AFunH.ofLO ocUa run0_lv 3000 Tryz.func39 mixed rfl (by decide) (Nat.le_of_ble_eq_true rfl) rfl rfl (Nat.le_of_ble_eq_true rfl) (run0_T t cs sh fr i n nv vs turns) (by kernel_rfl) fun hF => by
  unfold run0_T
  refine g_stop (RunN.keep [0, 1, 2, 3, 4] (true :: true :: F2 (false :: true :: F32 (F16 (F8 (F4 (F2 (false :: []))))))) (kk rfl) (by decide) rfl rfl ?_)
  exact run0_l0 t cs sh fr i n nv vs turns h

def noSt : EState := ([], [], [], [], [], [], 0, 0)
/-- A run of no turn. -/
noncomputable def run0F (p : EProg) (t : ETrace) (s : EState) (th : Int) (turns : Int) : EState × Int × Int × Int :=
 if checkF p t = 0 then
  if stckF p s = 0 then
   if th < 0 then (noSt, 0, 0, 5)
   else if (s.2.2.2.1.length : Int) ≤ th then (noSt, 0, 0, 5)
   else if standsF t s th = true then
    if turns < 0 then (noSt, 0, 0, 1)
    else if (1000 : Int) < turns then (noSt, 0, 0, 1)
    else (s, -1, 0, 0)
   else (noSt, 0, 0, 8)
  else (noSt, 0, 0, stckF p s)
 else (noSt, 0, 0, checkF p t)
noncomputable def ocUb : Orc where
 pure := fun f args => match f, args with
  | 27, [a0, a1] => match dA tProg a0, dA tState a1 with
   | some x0, some x1 => some (.c (.int .i64 (stckF x0 x1)))
   | _, _ => none
  | 32, [a0, a1] => match dA tProg a0, dA tTrace a1 with
   | some x0, some x1 => some (.c (.int .i64 (checkF x0 x1)))
   | _, _ => none
  | 37, [a0, a1, a2] => match dA tTrace a0, dA tState a1, dA tI a2 with
   | some x0, some x1, some x2 => some (.c (.bool (standsF x0 x1 x2)))
   | _, _, _ => none
  | _, _ => none
 heap := fun f args H => match f, args with
  | 38, [a0] => (match dA tState a0 with
    | some x0 => hres [] H (.agg [.osl 0 4 x0.1.length, .osl 1 2 x0.2.1.length, .osl 2 1 x0.2.2.1.length, .osl 3 5 x0.2.2.2.1.length, .osl 4 3 x0.2.2.2.2.1.length, .osl 5 2 x0.2.2.2.2.2.1.length, .int .i64 x0.2.2.2.2.2.2.1, .int .i64 x0.2.2.2.2.2.2.2]) [.nest 55 skCell x0.1 none 0 [], .ovec 51 tVal x0.2.1, .ovec 9 .str x0.2.2.1, .nest 57 skThread x0.2.2.2.1 none 0 [], .ovec 112 tEnd x0.2.2.2.2.1, .ovec 48 tVal x0.2.2.2.2.2.1]
    | _ => none)
  | 39, [.one (.c (.ptr b0 0 0 0)), a1] => (match cellsAs 90 H[b0]? with
   | some [c0_0_0, c0_0_1, c0_0_2, c0_0_3, c0_0_4, c0_0_5, c0_0_6, c0_0_7, c0_0_8, c0_0_9, c0_0_10, c0_0_11, c0_0_12, .osl b1 4 _, .osl b2 2 _, .ptr b3 8 i0_3 0, c0_4, .sl b4 2 0 n0_5] => (match dA tI a1, dCs tTrace [c0_0_0, c0_0_1, c0_0_2, c0_0_3, c0_0_4, c0_0_5, c0_0_6, c0_0_7, c0_0_8, c0_0_9, c0_0_10, c0_0_11, c0_0_12], dC tI c0_4, nestAs 55 skCell H[b1]?, ovecAs 51 tVal H[b2]?, nestAs 61 skFrame H[b3]?, vecAs 48 tVal H[b4]? with
    | some x1, some y0_0, some y0_4, some y1, some y2, some y3, some y4 => hres [b0, b1, b2, b3, b4] H (.tup [.c (.int .i64 ((-1))), .c (.int .i64 (0)), .c (.int .i64 (0))]) [.cells 90 [.int .i64 y0_0.1, .int .i64 y0_0.2.1, .int .i64 y0_0.2.2.1, .ro tIns y0_0.2.2.2.1, .ro tExit y0_0.2.2.2.2.1, .int .i64 y0_0.2.2.2.2.2.1.1, .int .i64 y0_0.2.2.2.2.2.1.2.1, .ro tVal y0_0.2.2.2.2.2.1.2.2.1, .ro tMake y0_0.2.2.2.2.2.1.2.2.2, .int .i64 y0_0.2.2.2.2.2.2.1, .int .i64 y0_0.2.2.2.2.2.2.2.1, .ro tVal y0_0.2.2.2.2.2.2.2.2.1, .ro tMake y0_0.2.2.2.2.2.2.2.2.2, .osl 1 4 y1.length, .osl 2 2 y2.length, .ptr 3 8 i0_3 0, .int .i64 y0_4, .sl 4 2 0 n0_5], .nest 55 skCell y1 none 0 [], .ovec 51 tVal y2, .nest 61 skFrame y3 none 0 [], .vec 48 tVal y4]
    | _, _, _, _, _, _, _ => none)
   | _ => none)
  | _, _ => none
def Run0_lv : LV := ⟨([]), []⟩
abbrev gKe9 : List CV := [.nilsl, .nilsl, .nilsl, .nilsl, .nilsl, .nilsl, .int .i64 0, .int .i64 0]
abbrev gKe8 (s : EState) : List CV := [.osl 4 4 s.1.length, .osl 5 2 s.2.1.length, .osl 6 1 s.2.2.1.length, .osl 7 5 s.2.2.2.1.length, .osl 8 3 s.2.2.2.2.1.length, .osl 9 2 s.2.2.2.2.2.1.length, .int .i64 s.2.2.2.2.2.2.1, .int .i64 s.2.2.2.2.2.2.2]
abbrev gKe7 (s : EState) : List CV := [.osl 4 4 s.1.length, .osl 5 2 s.2.1.length, .osl 6 1 s.2.2.1.length, .osl 7 5 s.2.2.2.1.length, .osl 8 3 s.2.2.2.2.1.length, .osl 9 2 s.2.2.2.2.2.1.length, .int .i64 s.2.2.2.2.2.2.1, .int .i64 (s.2.2.2.2.2.2.2 + 0)]
abbrev gKe6 (p : EProg) (t : ETrace) (s : EState) : List AB := [.cells 26 (Ty.enc tProg p), .cells 34 (Ty.enc tTrace t), .cells 40 (Ty.enc tState s), .cells 40 gKe9]
abbrev gKe4 (t : ETrace) (s : EState) (th : Int) : List CV := [.int .i64 t.1, .int .i64 t.2.1, .int .i64 t.2.2.1, .ro tIns t.2.2.2.1, .ro tExit t.2.2.2.2.1, .int .i64 t.2.2.2.2.2.1.1, .int .i64 t.2.2.2.2.2.1.2.1, .ro tVal t.2.2.2.2.2.1.2.2.1, .ro tMake t.2.2.2.2.2.1.2.2.2, .int .i64 t.2.2.2.2.2.2.1, .int .i64 t.2.2.2.2.2.2.2.1, .ro tVal t.2.2.2.2.2.2.2.2.1, .ro tMake t.2.2.2.2.2.2.2.2.2, .osl 4 4 s.1.length, .osl 5 2 s.2.1.length, .ptr 10 8 (Int.toNat ((((s.2.2.2.1.getD (Int.toNat th) tThread.dflt).1.length : Nat) : Int) - 1)) 0, .int .i64 0, .sl 11 2 0 t.2.2.2.1.length]
abbrev gKe0 (p : EProg) (t : ETrace) (s : EState) (th : Int) : List AB := [.cells 26 (Ty.enc tProg p), .cells 34 (Ty.enc tTrace t), .cells 40 (gKe8 s), .cells 40 gKe9, .nest 55 skCell s.1 none 0 [], .ovec 51 tVal s.2.1, .ovec 9 .str s.2.2.1, .nest 57 skThread s.2.2.2.1 none (Int.toNat th) [(0, .osl 10 8 (s.2.2.2.1.getD (Int.toNat th) tThread.dflt).1.length)], .ovec 112 tEnd s.2.2.2.2.1, .ovec 48 tVal s.2.2.2.2.2.1, .nest 61 skFrame (s.2.2.2.1.getD (Int.toNat th) tThread.dflt).1 none 0 [], .vec 48 tVal (List.replicate t.2.2.2.1.length (0, 0)), .cells 90 (gKe4 t s th)]
noncomputable def Run0_T (p : EProg) (t : ETrace) (s : EState) (th : Int) (turns : Int) : Tree :=
 .call 32 [.agg (Ty.enc tProg p), .agg (Ty.enc tTrace t)] false (.c (.int .i64 (checkF p t))) <|
 .ite ((!(decide (checkF p t = 0))))
 (.ret (.tup [.agg gKe9, .c (.int .i64 0), .c (.int .i64 0), .c (.int .i64 (checkF p t))]) (gKe6 p t s))
 (.call 27 [.agg (Ty.enc tProg p), .agg (Ty.enc tState s)] false (.c (.int .i64 (stckF p s))) <|
  .ite ((!(decide (stckF p s = 0))))
  (.ret (.tup [.agg gKe9, .c (.int .i64 0), .c (.int .i64 0), .c (.int .i64 (stckF p s))]) (gKe6 p t s))
  (.ite (decide (th < 0))
  (.ret (.tup [.agg gKe9, .c (.int .i64 0), .c (.int .i64 0), .c (.int .i64 5)]) (gKe6 p t s))
  (.ite (decide ((s.2.2.2.1.length : Int) ≤ th))
   (.ret (.tup [.agg gKe9, .c (.int .i64 0), .c (.int .i64 0), .c (.int .i64 5)]) (gKe6 p t s))
   (.call 37 [.agg (Ty.enc tTrace t), .agg (Ty.enc tState s), .c (.int .i64 th)] false (.c (.bool (standsF t s th))) <|
   .ite ((!(standsF t s th)))
   (.ret (.tup [.agg gKe9, .c (.int .i64 0), .c (.int .i64 0), .c (.int .i64 8)]) (gKe6 p t s))
   (.ite (decide (turns < 0))
    (.ret (.tup [.agg gKe9, .c (.int .i64 0), .c (.int .i64 0), .c (.int .i64 1)]) (gKe6 p t s))
    (.ite (decide ((1000 : Int) < turns))
    (.ret (.tup [.agg gKe9, .c (.int .i64 0), .c (.int .i64 0), .c (.int .i64 1)]) (gKe6 p t s))
    (.callH 38 [.agg (Ty.enc tState s)] (gKe6 p t s) (.agg (gKe8 s)) [.cells 26 (Ty.enc tProg p), .cells 34 (Ty.enc tTrace t), .cells 40 (Ty.enc tState s), .cells 40 gKe9, .nest 55 skCell s.1 none 0 [], .ovec 51 tVal s.2.1, .ovec 9 .str s.2.2.1, .nest 57 skThread s.2.2.2.1 none 0 [], .ovec 112 tEnd s.2.2.2.2.1, .ovec 48 tVal s.2.2.2.2.2.1] [4, 5, 6, 7, 8, 9] <|
     .need ((0 : Int) ≤ th ∧ (th : Int) < ((s.2.2.2.1.length : Nat) : Int)) <|
     .need ((Int.toNat th) < s.2.2.2.1.length ∧ (List.isEmpty ([] : List (Nat × CV)) = true ∨ (Int.toNat th) = 0)) <|
     .need (inR .i64 ((((s.2.2.2.1.getD (Int.toNat th) tThread.dflt).1.length : Nat) : Int) - 1)) <|
     .need ((0 : Int) ≤ ((((s.2.2.2.1.getD (Int.toNat th) tThread.dflt).1.length : Nat) : Int) - 1) ∧ (((((s.2.2.2.1.getD (Int.toNat th) tThread.dflt).1.length : Nat) : Int) - 1) : Int) < (((s.2.2.2.1.getD (Int.toNat th) tThread.dflt).1.length : Nat) : Int)) <|
     .need ((0 : Int) ≤ (t.2.2.2.1.length : Int) ∧ ((t.2.2.2.1.length : Int) : Int) ≤ (t.2.2.2.1.length : Int) ∧ ((t.2.2.2.1.length : Int) : Int) ≤ 140737488355328 ∧ (16 : Int) * (t.2.2.2.1.length : Int) ≤ 140737488355328) <|
     .callH 39 [.c (.ptr 12 0 0 0), .c (.int .i64 turns)] (gKe0 p t s th) (.tup [.c (.int .i64 (-1)), .c (.int .i64 0), .c (.int .i64 0)]) (gKe0 p t s th) [12, 4, 5, 10, 11] <|
     .ite (decide (0 = 2))
     (.ret (.tup [.agg gKe9, .c (.int .i64 0), .c (.int .i64 0), .c (.int .i64 8)]) (gKe0 p t s th))
     (.need (inR .i64 (s.2.2.2.2.2.2.2 + 0)) <|
     .ite (decide ((1000000000 : Int) < (s.2.2.2.2.2.2.2 + 0)))
     (.ret (.tup [.agg gKe9, .c (.int .i64 0), .c (.int .i64 0), .c (.int .i64 2)]) (gKe0 p t s th))
     (.need (inR .i64 (s.2.2.2.2.2.2.2 + 0)) <|
      .ret (.tup [.agg (gKe7 s), .c (.int .i64 (-1)), .c (.int .i64 0), .c (.int .i64 0)]) [.cells 26 (Ty.enc tProg p), .cells 34 (Ty.enc tTrace t), .cells 40 (gKe7 s), .cells 40 (gKe7 s), .nest 55 skCell s.1 none 0 [], .ovec 51 tVal s.2.1, .ovec 9 .str s.2.2.1, .nest 57 skThread s.2.2.2.1 none (Int.toNat th) [(0, .osl 10 8 (s.2.2.2.1.getD (Int.toNat th) tThread.dflt).1.length)], .ovec 112 tEnd s.2.2.2.2.1, .ovec 48 tVal s.2.2.2.2.2.1, .nest 61 skFrame (s.2.2.2.1.getD (Int.toNat th) tThread.dflt).1 none 0 [], .vec 48 tVal (List.replicate t.2.2.2.1.length (0, 0)), .cells 90 (gKe4 t s th)])))))))))
theorem FactsH.arg3 {args : List AV} {H : List AB} {i : Nat} {t : Ty} {x : t.El} (h : FactsH args H) (hi : args[i]? = some (.agg (t.enc x))) : t.ok x := by
 obtain ⟨σ, w, v, h⟩ := h.arg hi
 obtain ⟨vs, rfl, h⟩ := h
 exact enc_ok t h
theorem stands_len {t : ETrace} {s : EState} {th : Int} (h : standsF t s th = true) : 0 < (s.2.2.2.1.getD (Int.toNat th) tThread.dflt).1.length := by
 unfold standsF at h
 repeat' split at h
 all_goals first | (cases h; done) | omega
theorem Run0_fun (p : EProg) (t : ETrace) (s : EState) (th : Int) (turns : Int) (h : turns = 0) : AFunH Tryz.prog 15 [.agg (tProg.enc p), .agg (tTrace.enc t), .agg (tState.enc s), .c (.int .i64 th), .c (.int .i64 turns)] [] (.tup [.agg (Ty.enc tState ((run0F p t s th turns).1)), .c (.int .i64 ((run0F p t s th turns).2.1)), .c (.int .i64 ((run0F p t s th turns).2.2.1)), .c (.int .i64 ((run0F p t s th turns).2.2.2))]) [] (List.range 0) :=
 AFunH.ofLA ocUb Run0_lv 3000 Tryz.func15 mixed rfl (by decide) (Nat.le_of_ble_eq_true rfl) rfl rfl (Nat.le_of_ble_eq_true rfl) (Run0_T p t s th turns) (by kernel_rfl) fun hF => by
  have hst : stckF p s = 0 → s.2.2.2.2.2.2.2 ≤ 1000000000 ∧ 0 ≤ s.2.2.2.2.2.2.2 := fun hq => by
   have := swithin_iff.1 (right_parts (stck_parts hq).2.2.2.2).1
   omega
  have q1 : Ty.ok tState s := (hF.arg3 (i := 2) rfl)
  have q3 : Ty.ok tTrace t := (hF.arg3 (i := 1) rfl)
  have qi := q3.2.2.2.1.1
  have hsm : checkF p t = 0 → t.2.2.2.1.length ≤ 300 := fun hq => (check_iff.1 hq).n
  unfold Run0_T
  refine e_start (run0F.eq_1 p t s th turns) ?_
  repeat' first
   | with_reducible refine e_Df (by decide) ?_
   | with_reducible refine e_D (fun _ => ?_) (fun _ => ?_)
   | with_reducible refine e_NB (fun _ => ?_) (fun _ => ?_)
   | with_reducible refine e_ND (fun _ => ?_) (fun _ => ?_)
   | refine e_need (by first | omega | rfl | (constructor <;> omega) | exact ⟨rfl, rfl⟩ | (have hq := hst (by assumption); first | omega | (rw [i64_iff]; omega)) | (have q2 := (q1.2.2.2.1.2 _ (getD_mem (α := EThread) (Ty.dflt tThread) (by omega : Int.toNat th < s.2.2.2.1.length))).1.1; have q4 := stands_len (by assumption); have qq := hsm (by assumption); first | omega | (constructor <;> omega) | (rw [i64_iff]; omega) | (simp only [List.isEmpty_nil, true_or, and_true]; omega) | simp only [List.length_set])) ?_
   | refine e_call (check_fun p t) (fun h => nomatch h) ?_
   | refine e_call (stck_fun p s) (fun h => nomatch h) ?_
   | refine e_call (stands_fun t s th) (fun h => nomatch h) ?_
   | refine e_callH (AFunH.frameB [] (own_fun s (StSm.of (p := p) (by assumption))) rfl rfl rfl rfl rfl rfl rfl) ?_
   | refine e_callH (AFunH.frameB [12, 4, 5, 10, 11] (run0_fun t s.1 s.2.1 (s.2.2.2.1.getD (Int.toNat th) tThread.dflt).1 (Int.toNat ((((s.2.2.2.1.getD (Int.toNat th) tThread.dflt).1.length : Nat) : Int) - 1)) 0 t.2.2.2.1.length (List.replicate t.2.2.2.1.length (0, 0)) turns h) rfl rfl rfl rfl rfl rfl rfl) ?_
   | with_reducible refine e_Df (by have hq := hst (by assumption); omega) ?_
   | exact fun hE => g_ab0 (g_fin (g_end [] (kk rfl) (by decide) (by rw [hE]; first | exact leAV.refl _ | rfl | (repeat' first | exact leC.refl _ | exact trivial | rfl | (simp only [pairEta, setSelf, Int.add_zero]; first | done | rfl) | constructor)) (by first | exact leHs.refl _ | (rw [hE]; exact leHs.refl _) | (rw [hE]; simp only [pairEta, setSelf, Int.add_zero]; exact leHs.refl _))))
   | exact fun hE => g_abs (H' := [.cells 26 (Ty.enc tProg p), .cells 34 (Ty.enc tTrace t), .cells 40 (gKe7 s), .cells 40 (gKe7 s), .nest 55 skCell s.1 none 0 [], .ovec 51 tVal s.2.1, .ovec 9 .str s.2.2.1, .nest 57 skThread (s.2.2.2.1.set (Int.toNat th) (s.2.2.2.1.getD (Int.toNat th) tThread.dflt)) none (Int.toNat th) [], .ovec 112 tEnd s.2.2.2.2.1, .ovec 48 tVal s.2.2.2.2.2.1, .dead, .vec 48 tVal (List.replicate t.2.2.2.1.length (0, 0)), .cells 90 (gKe4 t s th)]) (.step (.mk 7 10 0 _ _ _ _ _ skFrame _ _ _ _ _ _ _ rfl rfl (.inr ⟨_, rfl⟩) (by decide) rfl rfl (rfl) (by first | omega | rfl | (constructor <;> omega) | exact ⟨rfl, rfl⟩ | (have hq := hst (by assumption); first | omega | (rw [i64_iff]; omega)) | (have q2 := (q1.2.2.2.1.2 _ (getD_mem (α := EThread) (Ty.dflt tThread) (by omega : Int.toNat th < s.2.2.2.1.length))).1.1; have q4 := stands_len (by assumption); have qq := hsm (by assumption); first | omega | (constructor <;> omega) | (rw [i64_iff]; omega) | (simp only [List.isEmpty_nil, true_or, and_true]; omega) | simp only [List.length_set])) rfl (.inl ⟨rfl, rfl⟩)) (.refl _)) (g_fin (g_need (by first | omega | rfl | (constructor <;> omega) | exact ⟨rfl, rfl⟩ | (have hq := hst (by assumption); first | omega | (rw [i64_iff]; omega)) | (have q2 := (q1.2.2.2.1.2 _ (getD_mem (α := EThread) (Ty.dflt tThread) (by omega : Int.toNat th < s.2.2.2.1.length))).1.1; have q4 := stands_len (by assumption); have qq := hsm (by assumption); first | omega | (constructor <;> omega) | (rw [i64_iff]; omega) | (simp only [List.isEmpty_nil, true_or, and_true]; omega) | simp only [List.length_set])) (g_need (by first | omega | rfl | (constructor <;> omega) | exact ⟨rfl, rfl⟩ | (have hq := hst (by assumption); first | omega | (rw [i64_iff]; omega)) | (have q2 := (q1.2.2.2.1.2 _ (getD_mem (α := EThread) (Ty.dflt tThread) (by omega : Int.toNat th < s.2.2.2.1.length))).1.1; have q4 := stands_len (by assumption); have qq := hsm (by assumption); first | omega | (constructor <;> omega) | (rw [i64_iff]; omega) | (simp only [List.isEmpty_nil, true_or, and_true]; omega) | simp only [List.length_set])) (g_need (by first | omega | rfl | (constructor <;> omega) | exact ⟨rfl, rfl⟩ | (have hq := hst (by assumption); first | omega | (rw [i64_iff]; omega)) | (have q2 := (q1.2.2.2.1.2 _ (getD_mem (α := EThread) (Ty.dflt tThread) (by omega : Int.toNat th < s.2.2.2.1.length))).1.1; have q4 := stands_len (by assumption); have qq := hsm (by assumption); first | omega | (constructor <;> omega) | (rw [i64_iff]; omega) | (simp only [List.isEmpty_nil, true_or, and_true]; omega) | simp only [List.length_set])) (g_need (by first | omega | rfl | (constructor <;> omega) | exact ⟨rfl, rfl⟩ | (have hq := hst (by assumption); first | omega | (rw [i64_iff]; omega)) | (have q2 := (q1.2.2.2.1.2 _ (getD_mem (α := EThread) (Ty.dflt tThread) (by omega : Int.toNat th < s.2.2.2.1.length))).1.1; have q4 := stands_len (by assumption); have qq := hsm (by assumption); first | omega | (constructor <;> omega) | (rw [i64_iff]; omega) | (simp only [List.isEmpty_nil, true_or, and_true]; omega) | simp only [List.length_set])) (g_need (by first | omega | rfl | (constructor <;> omega) | exact ⟨rfl, rfl⟩ | (have hq := hst (by assumption); first | omega | (rw [i64_iff]; omega)) | (have q2 := (q1.2.2.2.1.2 _ (getD_mem (α := EThread) (Ty.dflt tThread) (by omega : Int.toNat th < s.2.2.2.1.length))).1.1; have q4 := stands_len (by assumption); have qq := hsm (by assumption); first | omega | (constructor <;> omega) | (rw [i64_iff]; omega) | (simp only [List.isEmpty_nil, true_or, and_true]; omega) | simp only [List.length_set])) (g_need (by first | omega | rfl | (constructor <;> omega) | exact ⟨rfl, rfl⟩ | (have hq := hst (by assumption); first | omega | (rw [i64_iff]; omega)) | (have q2 := (q1.2.2.2.1.2 _ (getD_mem (α := EThread) (Ty.dflt tThread) (by omega : Int.toNat th < s.2.2.2.1.length))).1.1; have q4 := stands_len (by assumption); have qq := hsm (by assumption); first | omega | (constructor <;> omega) | (rw [i64_iff]; omega) | (simp only [List.isEmpty_nil, true_or, and_true]; omega) | simp only [List.length_set])) (g_end [] (kk rfl) (by decide) (by rw [hE]; first | exact leAV.refl _ | rfl | (repeat' first | exact leC.refl _ | exact trivial | rfl | (simp only [pairEta, setSelf, Int.add_zero]; first | done | rfl) | constructor)) (by first | exact leHs.refl _ | (rw [hE]; exact leHs.refl _) | (rw [hE]; simp only [pairEta, setSelf, Int.add_zero]; exact leHs.refl _))))))))))

end Go.Proofs.YtkonkblfckhcbaaGreatDoor
namespace Go.Proofs.YtkonkblfckhcbaaGreatDoor
set_option maxHeartbeats 4000000
set_option linter.unusedVariables false
set_option linter.unusedSimpArgs false
set_option maxRecDepth 100000
noncomputable def ocUd : Orc where
 pure := fun f args => match f, args with
  | 17, [] => some (.c (.bool (true)))
  | 26, [a0, a1] => match dA tState a0, dA tState a1 with
   | some x0, some x1 => some (.c (.bool (decide (x0 = x1))))
   | _, _ => none
  | _, _ => none
 heap := fun f args H => match f, args with
  | 15, [a0, a1, a2, a3, a4] => (match dA tProg a0, dA tTrace a1, dA tState a2, dA tI a3, dA tI a4 with
    | some x0, some x1, some x2, some x3, some x4 => hres [] H (.tup [.agg (Ty.enc tState ((run0F x0 x1 x2 x3 x4).1)), .c (.int .i64 ((run0F x0 x1 x2 x3 x4).2.1)), .c (.int .i64 ((run0F x0 x1 x2 x3 x4).2.2.1)), .c (.int .i64 ((run0F x0 x1 x2 x3 x4).2.2.2))]) []
    | _, _, _, _, _ => none)
  | _, _ => none
def irunNone_lv : LV := ⟨([]), []⟩
noncomputable def irunNone_T (p : EProg) (t : ETrace) (s : EState) (th : Int) : Tree :=
 .callH 15 [.agg (Ty.enc tProg p), .agg (Ty.enc tTrace t), .agg (Ty.enc tState s), .c (.int .i64 th), .c (.int .i64 0)] [.cells 26 (Ty.enc tProg p), .cells 34 (Ty.enc tTrace t), .cells 40 (Ty.enc tState s)] (.tup [.agg [.ro tCell (run0F p t s th 0).1.1, .ro tVal (run0F p t s th 0).1.2.1, .ro .str (run0F p t s th 0).1.2.2.1, .ro tThread (run0F p t s th 0).1.2.2.2.1, .ro tEnd (run0F p t s th 0).1.2.2.2.2.1, .ro tVal (run0F p t s th 0).1.2.2.2.2.2.1, .int .i64 (run0F p t s th 0).1.2.2.2.2.2.2.1, .int .i64 (run0F p t s th 0).1.2.2.2.2.2.2.2], .c (.int .i64 (run0F p t s th 0).2.1), .c (.int .i64 (run0F p t s th 0).2.2.1), .c (.int .i64 (run0F p t s th 0).2.2.2)]) [.cells 26 (Ty.enc tProg p), .cells 34 (Ty.enc tTrace t), .cells 40 (Ty.enc tState s)] [] <|
 .ite ((!(decide ((run0F p t s th 0).2.2.2 = 0))))
 (.call 17 [] false (.c (.bool true)) <|
  .ret (.c (.bool true)) [.cells 26 (Ty.enc tProg p), .cells 34 (Ty.enc tTrace t), .cells 40 (Ty.enc tState s), .cells 40 [.ro tCell (run0F p t s th 0).1.1, .ro tVal (run0F p t s th 0).1.2.1, .ro .str (run0F p t s th 0).1.2.2.1, .ro tThread (run0F p t s th 0).1.2.2.2.1, .ro tEnd (run0F p t s th 0).1.2.2.2.2.1, .ro tVal (run0F p t s th 0).1.2.2.2.2.2.1, .int .i64 (run0F p t s th 0).1.2.2.2.2.2.2.1, .int .i64 (run0F p t s th 0).1.2.2.2.2.2.2.2]])
 (.call 17 [] false (.c (.bool true)) <|
  .ite (true)
  (.ite (decide ((run0F p t s th 0).2.1 = (-1)))
  (.ite (decide ((run0F p t s th 0).2.2.1 = 0))
   (.call 26 [.agg [.ro tCell (run0F p t s th 0).1.1, .ro tVal (run0F p t s th 0).1.2.1, .ro .str (run0F p t s th 0).1.2.2.1, .ro tThread (run0F p t s th 0).1.2.2.2.1, .ro tEnd (run0F p t s th 0).1.2.2.2.2.1, .ro tVal (run0F p t s th 0).1.2.2.2.2.2.1, .int .i64 (run0F p t s th 0).1.2.2.2.2.2.2.1, .int .i64 (run0F p t s th 0).1.2.2.2.2.2.2.2], .agg (Ty.enc tState s)] false (.c (.bool (decide ((run0F p t s th 0).1 = s)))) <|
   .ret (.c (.bool (decide ((run0F p t s th 0).1 = s)))) [.cells 26 (Ty.enc tProg p), .cells 34 (Ty.enc tTrace t), .cells 40 (Ty.enc tState s), .cells 40 [.ro tCell (run0F p t s th 0).1.1, .ro tVal (run0F p t s th 0).1.2.1, .ro .str (run0F p t s th 0).1.2.2.1, .ro tThread (run0F p t s th 0).1.2.2.2.1, .ro tEnd (run0F p t s th 0).1.2.2.2.2.1, .ro tVal (run0F p t s th 0).1.2.2.2.2.2.1, .int .i64 (run0F p t s th 0).1.2.2.2.2.2.2.1, .int .i64 (run0F p t s th 0).1.2.2.2.2.2.2.2]])
   (.ret (.c (.lit false)) [.cells 26 (Ty.enc tProg p), .cells 34 (Ty.enc tTrace t), .cells 40 (Ty.enc tState s), .cells 40 [.ro tCell (run0F p t s th 0).1.1, .ro tVal (run0F p t s th 0).1.2.1, .ro .str (run0F p t s th 0).1.2.2.1, .ro tThread (run0F p t s th 0).1.2.2.2.1, .ro tEnd (run0F p t s th 0).1.2.2.2.2.1, .ro tVal (run0F p t s th 0).1.2.2.2.2.2.1, .int .i64 (run0F p t s th 0).1.2.2.2.2.2.2.1, .int .i64 (run0F p t s th 0).1.2.2.2.2.2.2.2]]))
  (.ret (.c (.lit false)) [.cells 26 (Ty.enc tProg p), .cells 34 (Ty.enc tTrace t), .cells 40 (Ty.enc tState s), .cells 40 [.ro tCell (run0F p t s th 0).1.1, .ro tVal (run0F p t s th 0).1.2.1, .ro .str (run0F p t s th 0).1.2.2.1, .ro tThread (run0F p t s th 0).1.2.2.2.1, .ro tEnd (run0F p t s th 0).1.2.2.2.2.1, .ro tVal (run0F p t s th 0).1.2.2.2.2.2.1, .int .i64 (run0F p t s th 0).1.2.2.2.2.2.2.1, .int .i64 (run0F p t s th 0).1.2.2.2.2.2.2.2]]))
  (.ret (.c (.lit false)) [.cells 26 (Ty.enc tProg p), .cells 34 (Ty.enc tTrace t), .cells 40 (Ty.enc tState s), .cells 40 [.ro tCell (run0F p t s th 0).1.1, .ro tVal (run0F p t s th 0).1.2.1, .ro .str (run0F p t s th 0).1.2.2.1, .ro tThread (run0F p t s th 0).1.2.2.2.1, .ro tEnd (run0F p t s th 0).1.2.2.2.2.1, .ro tVal (run0F p t s th 0).1.2.2.2.2.2.1, .int .i64 (run0F p t s th 0).1.2.2.2.2.2.2.1, .int .i64 (run0F p t s th 0).1.2.2.2.2.2.2.2]]))
theorem irunNone_T_ok (p : EProg) (t : ETrace) (s : EState) (th : Int) : aRun Tryz.prog ocUd Tryz.f8 irunNone_lv 3000 [.code (bodyOf Tryz.f8)] ([.agg (tProg.enc p), .agg (tTrace.enc t), .agg (tState.enc s), .c (.int .i64 th)] ++ List.replicate (Func.ntmps Tryz.f8 - 4) .junk) [] = irunNone_T p t s th := by kernel_rfl
theorem run0_ok {p : EProg} {t : ETrace} {s : EState} {th : Int} (h : (run0F p t s th 0).2.2.2 = 0) : run0F p t s th 0 = (s, -1, 0, 0) := by
 unfold run0F at h ⊢
 split at h
 ·rename_i h0
  split at h
  ·rename_i h1
   split at h
   ·cases h
   ·split at h
    ·cases h
    ·split at h
     ·rename_i h2 h3 h4
      rw [if_pos h0, if_pos h1, if_neg h2, if_neg h3, if_pos h4]
      rw [if_neg (by omega), if_neg (by omega)]
     ·cases h
  ·rename_i h1; exact absurd h h1
 ·rename_i h0; exact absurd h h0
theorem irunNone_fun (p : EProg) (t : ETrace) (s : EState) (th : Int) : AFun Tryz.prog 8 [.agg (tProg.enc p), .agg (tTrace.enc t), .agg (tState.enc s), .c (.int .i64 th)] (.c (.bool (true))) :=
 AFun.of ocUd irunNone_lv 3000 Tryz.func8 mixed rfl (by decide) (Nat.le_of_ble_eq_true rfl) _ (irunNone_T_ok p t s th) fun hF => by
  unfold irunNone_T
  refine g_callH (AFunH.frameB [] (Run0_fun p t s th 0 rfl) rfl rfl rfl rfl rfl rfl rfl) ?_
  refine g_iteND (fun h0 => ?_) (fun h0 => ?_)
  ·refine g_call (irred_fun) (fun h => nomatch h) ?_
   exact g_retb (by first | rfl | (have e := run0_ok h0; simp [e]; done) | (exfalso; have e := run0_ok h0; first | exact h2 (by rw [e]) | exact h3 (by rw [e])))
  ·refine g_call (irred_fun) (fun h => nomatch h) ?_
   refine g_ite (fun h1 => ?_) (fun h1 => ?_)
   ·refine g_iteD (fun h2 => ?_) (fun h2 => ?_)
    ·refine g_iteD (fun h3 => ?_) (fun h3 => ?_)
     ·refine g_call (qState_fun (run0F p t s th 0).1 s) (fun h => nomatch h) ?_
      exact g_retb (by first | rfl | (have e := run0_ok h0; simp [e]; done) | (exfalso; have e := run0_ok h0; first | exact h2 (by rw [e]) | exact h3 (by rw [e])))
     ·exact g_retl (by first | rfl | (have e := run0_ok h0; simp [e]; done) | (exfalso; have e := run0_ok h0; first | exact h2 (by rw [e]) | exact h3 (by rw [e])))
    ·exact g_retl (by first | rfl | (have e := run0_ok h0; simp [e]; done) | (exfalso; have e := run0_ok h0; first | exact h2 (by rw [e]) | exact h3 (by rw [e])))
   ·exact absurd h1 (by decide)

end Go.Proofs.YtkonkblfckhcbaaGreatDoor
