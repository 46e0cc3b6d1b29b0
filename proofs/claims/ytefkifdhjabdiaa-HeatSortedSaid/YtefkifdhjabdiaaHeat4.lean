import Derived.Test.YtefkifdhjabdiaaHeat3
namespace Go.Proofs.Ytefkifdhjabdiaa
set_option linter.unusedVariables false
set_option linter.unusedSimpArgs false
open Go.RowKit Go.Maps

theorem turn_bad {w : World} (v : Value) (f a : Int) (hi : f < 0 ∨ 60 ≤ f ∨ a < 0 ∨ 600 ≤ a) :
    Calls Try.prog 9 #[v, .int .i64 f, .int .i64 a] w fun e w' => e = .returned (.tuple #[.int .i64 0, .int .i64 1]) ∧ w = w' := by
  by_cases h1 : f < 0
  · go_enter Try.func9, Try.ntmps9
    go_wp2
    go_ret2
    exact ⟨rfl, rfl⟩
  · by_cases h2 : 60 ≤ f
    · go_enter Try.func9, Try.ntmps9
      go_wp2
      go_ret2
      exact ⟨rfl, rfl⟩
    · by_cases h3 : a < 0
      · go_enter Try.func9, Try.ntmps9
        go_wp2
        go_ret2
        exact ⟨rfl, rfl⟩
      · have h4 : 600 ≤ a := by omega
        go_enter Try.func9, Try.ntmps9
        go_wp2
        go_ret2
        exact ⟨rfl, rfl⟩

set_option maxHeartbeats 1000000 in
theorem turn_large {w : World} {hb mb n : Nat} {hot : Int} {m : Value → Option Value} (h : HeatAt w hb hot mb n m) (f a : Int) (sz : Nat) (hsz : 100 ≤ sz)
    (hlen : ∀ w1 : World, w1.heap[mb]? = w.heap[mb]? → ∀ ty, (Builtin.len_ #[48] ty #[.map (some mb)]).run Try.prog w1 = .ok (.int .i64 (sz : Int)) w1)
    (f0 : 0 ≤ f) (f1 : f < 60) (a0 : 0 ≤ a) (a1 : a < 600) (hx : m (place f a) = none) :
    Calls Try.prog 9 #[.pointer (some ⟨hb, 0, none⟩), .int .i64 f, .int .i64 a] w fun e w' => e = .returned (.tuple #[.int .i64 0, .int .i64 2]) ∧ Below w.heap.size w w' := by
  have g0 := h.c0
  have g1 := h.c1
  have hlt : hb < w.heap.size := (Array.getElem?_eq_some_iff.1 h.cells).1
  have hltm : mb < w.heap.size := h.map.lt
  obtain ⟨kl, hk⟩ := keyK f a (WalkArith.wf_i64 (by omega)) (WalkArith.wf_i64 (by omega))
  have l1 : ∀ o, (Instr.lookup 48 (.map (some mb)) (place f a) true).run Try.prog (w.alloc o).drew = .ok (.tuple #[headV 0 0 0 0 0 0, .bool false]) (w.alloc o).drew := fun o => by
    rw [(((h.map.alloc o).drew)).look_ok keyedK Try.underlying48 (zeroHead _) hk, hx]; rfl
  have l2 : ∀ o o', (Instr.lookup 48 (.map (some mb)) (place f a) true).run Try.prog ((w.alloc o).alloc o').drew = .ok (.tuple #[headV 0 0 0 0 0 0, .bool false]) ((w.alloc o).alloc o').drew := fun o o' => by
    rw [((((h.map.alloc o).alloc o').drew)).look_ok keyedK Try.underlying48 (zeroHead _) hk, hx]; rfl
  have hl : ∀ o o' ty, (Builtin.len_ #[48] ty #[.map (some mb)]).run Try.prog ((w.alloc o).alloc o').drew = .ok (.int .i64 (sz : Int)) ((w.alloc o).alloc o').drew := fun o o' ty => hlen _ (by
    show ((w.alloc o).alloc o').heap[mb]? = _
    rw [Below.heap_alloc _ _ _ (by simp; omega), Below.heap_alloc _ _ _ hltm]) ty
  clear hlen hk hx
  have hszd : decide ((100 : Int) ≤ (sz : Int)) = true := by simp; omega
  unfold place headV at l1 l2
  go_enter Try.func9, Try.ntmps9
  go_wp2
  go_region
  go_wp2
  go_ret2
  exact ⟨rfl, (((Below.refl _ _).alloc (Nat.le_refl _) _).alloc (by simp) _).drew⟩

/-! ### the table of heads -/
structure Hd where
  c : Int
  l : Int
  x : Int
  s : Int
/-- What is known of each head. -/
def HdOK (hot : Int) (h : Hd) : Prop :=
  ((h.x = 0 ∧ h.l = hot) ∨ (h.x = 1 ∧ h.l = 2 * hot) ∨ (h.x = 2 ∧ h.l = 2 * (2 * hot)) ∨ (h.x = 3 ∧ h.l = 2 * (2 * (2 * hot)))) ∧ (h.x = 3 → h.s = 3) ∧ (h.s = 0 ∨ h.s = 1 ∨ h.s = 2 ∨ h.s = 3) ∧ 0 ≤ h.c ∧ h.c ≤ h.l ∧ (h.s = 0 → h.c < h.l)
def hdV (f a : Int) (h : Hd) : Value := headV f a h.c h.l h.x h.s
def hd0 (hot : Int) : Hd := ⟨0, hot, 0, 0⟩
theorem hd0_ok {hot : Int} (h : 1 ≤ hot) : HdOK hot (hd0 hot) := ⟨.inl ⟨rfl, rfl⟩, by simp [hd0], .inl rfl, by simp [hd0], by simp [hd0]; omega, by simp [hd0]; omega⟩
def updT (T : Int → Int → Option Hd) (f a : Int) (h : Hd) : Int → Int → Option Hd := fun g b => if g = f ∧ b = a then some h else T g b
/-- A turn of a head. -/
def turnH (h : Hd) : Hd := ⟨countN h.c h.s, h.l, h.x, isN h.c h.l h.s⟩
def tellH (h : Hd) : Int := tellN h.c h.l h.s
def badH (h : Hd) : Hd := ⟨0, 2 * h.l, h.x + 1, if h.x + 1 ≥ 3 then 3 else 0⟩
def goodH (h : Hd) : Hd := ⟨h.c, h.l, h.x, 2⟩
theorem turnH_ok {hot : Int} {h : Hd} (k : HdOK hot h) (h1 : 1 ≤ hot) : HdOK hot (turnH h) := by
  obtain ⟨k1, k2, k3, k4, k5, k6⟩ := k
  unfold HdOK turnH countN isN
  by_cases hs : h.s = 0
  · have k7 := k6 hs
    refine ⟨k1, fun hx => ?_, ?_, ?_, ?_, ?_⟩ <;> simp only [hs, if_true, true_and] at *
    · have := k2 hx; omega
    · split <;> simp
    · omega
    · omega
    · split <;> omega
  · refine ⟨k1, fun hx => ?_, ?_, ?_, ?_, ?_⟩ <;> simp only [hs, if_false, false_and] at *
    · exact k2 hx
    · exact k3
    · exact k4
    · exact k5
    · intro h; exact h.elim
theorem badH_ok {hot : Int} {h : Hd} (k : HdOK hot h) (h1 : 1 ≤ hot) (hs : h.s = 1) : HdOK hot (badH h) := by
  obtain ⟨k1, k2, k3, k4, k5, k6⟩ := k
  unfold HdOK badH
  have x3 : h.x ≠ 3 := fun e => by have := k2 e; omega
  have lp : 0 < h.l := by omega
  refine ⟨?_, fun hx => ?_, ?_, ?_, ?_, ?_⟩ <;> simp only at *
  · omega
  · rw [if_pos (by omega)]
  · split <;> simp
  · omega
  · omega
  · intro _; omega
theorem goodH_ok {hot : Int} {h : Hd} (k : HdOK hot h) (hs : h.s = 1) : HdOK hot (goodH h) := by
  obtain ⟨k1, k2, k3, k4, k5, k6⟩ := k
  unfold HdOK goodH
  exact ⟨k1, fun hx => by have := k2 hx; omega, .inr (.inr (.inl rfl)), k4, k5, fun h => by cases h⟩

/-- A Heat whose heads are T's. -/
structure HeatT (w : World) (hb : Nat) (hot : Int) (mb n : Nat) (T : Int → Int → Option Hd) : Prop where
  hot1 : 1 ≤ hot
  hot2 : hot ≤ 1000
  ex : ∃ m, HeatAt w hb hot mb n m ∧ ∀ f a, m (place f a) = (T f a).map (hdV f a)
  ok : ∀ f a h, T f a = some h → HdOK hot h
theorem HeatT.lt {w : World} {hb mb n : Nat} {hot : Int} {T : Int → Int → Option Hd} (h : HeatT w hb hot mb n T) : hb < w.heap.size ∧ mb < w.heap.size := by obtain ⟨m, h, _⟩ := h.ex; exact h.lt
theorem HeatT.ne {w : World} {hb mb n : Nat} {hot : Int} {T : Int → Int → Option Hd} (h : HeatT w hb hot mb n T) : hb ≠ mb := by obtain ⟨m, h, _⟩ := h.ex; exact h.ne
theorem HeatT.mono {w : World} {hb mb n n' : Nat} {hot : Int} {T : Int → Int → Option Hd} (h : HeatT w hb hot mb n T) (hn : n ≤ n') : HeatT w hb hot mb n' T := by
  obtain ⟨h1, h2, ⟨m, h3, h4⟩, h5⟩ := h
  exact ⟨h1, h2, ⟨m, ⟨h3.cells, h3.map.mono hn⟩, h4⟩, h5⟩
theorem HeatT.block {w w1 : World} {hb mb n : Nat} {hot : Int} {T : Int → Int → Option Hd} (h : HeatT w hb hot mb n T) (e1 : w1.heap[hb]? = w.heap[hb]?) (e2 : w1.heap[mb]? = w.heap[mb]?) : HeatT w1 hb hot mb n T := by
  obtain ⟨h1, h2, ⟨m, h3, h4⟩, h5⟩ := h
  exact ⟨h1, h2, ⟨m, ⟨by rw [e1]; exact h3.cells, h3.map.block e2⟩, h4⟩, h5⟩
theorem HeatT.below {w w1 : World} {hb mb n : Nat} {hot : Int} {T : Int → Int → Option Hd} (h : HeatT w hb hot mb n T) (hB : Below w.heap.size w w1) : HeatT w1 hb hot mb n T := h.block (hB.block _ h.lt.1) (hB.block _ h.lt.2)
theorem HeatT.grown {w w1 : World} {hb mb n : Nat} {hot : Int} {T : Int → Int → Option Hd} (h : HeatT w hb hot mb n T) {r : Option Nat} (hg : w.grownBy w1 r) (n1 : some hb ≠ r) (n2 : some mb ≠ r) : HeatT w1 hb hot mb n T := h.block (hg.block _ h.lt.1 n1) (hg.block _ h.lt.2 n2)

theorem HeatT.drewN {w : World} {hb mb n : Nat} {hot : Int} {T : Int → Int → Option Hd} (h : HeatT w hb hot mb n T) (k : Nat) : HeatT (w.drewN k) hb hot mb n T := h.block rfl rfl
theorem pw_below_drewN {B : Nat} {w W : World} (h : Below B w W) (n : Nat) : Below B w (W.drewN n) := ⟨h.os, h.tape, h.output, h.size, h.block⟩
theorem place_inj {f a g b : Int} (h : place f a = place g b) : f = g ∧ a = b := by
  simpa [place] using h
theorem newT (hot : Int) (w : World) (h1 : 1 ≤ hot) (h2 : hot ≤ 1000) :
    Calls Try.prog 8 #[.int .i64 hot] w fun e w' => ∃ hb mb, e = .returned (.tuple #[.pointer (some ⟨hb, 0, none⟩), .int .i64 0]) ∧ HeatT w' hb hot mb 0 (fun _ _ => none) ∧ Below w.heap.size w w' ∧ w.heap.size ≤ hb ∧ w.heap.size ≤ mb :=
  (new_any hot w h1 h2).mono fun e w' ⟨hb, mb, he, h, hB, b1, b2⟩ => ⟨hb, mb, he, ⟨h1, h2, ⟨_, h, fun _ _ => rfl⟩, fun _ _ _ h => by cases h⟩, hB, b1, b2⟩
theorem HeatT.upd {w w1 : World} {hb mb n : Nat} {hot : Int} {T : Int → Int → Option Hd} {m : Value → Option Value} (h : HeatT w hb hot mb n T) (hm : ∀ f a, m (place f a) = (T f a).map (hdV f a)) {f a : Int} {k : Hd} (hk : HdOK hot k) (h1 : HeatAt w1 hb hot mb (n + 1) (updF m (place f a) (hdV f a k))) :
    HeatT w1 hb hot mb (n + 1) (updT T f a k) := by
  refine ⟨h.hot1, h.hot2, ⟨_, h1, fun g b => ?_⟩, fun g b k' => ?_⟩
  · unfold updT
    by_cases e : g = f ∧ b = a
    · obtain ⟨rfl, rfl⟩ := e
      rw [updF_same]; simp
    · rw [updF_other _ _ (fun h => e (place_inj h)), if_neg e, hm]
  · unfold updT
    split
    · intro e; injection e with e; subst e; exact hk
    · exact h.ok g b k'

def Valid (f a : Int) : Prop := 0 ≤ f ∧ f < 60 ∧ 0 ≤ a ∧ a < 600
/-- What a turn does to the table. -/
def TurnT (hot : Int) (T : Int → Int → Option Hd) (f a : Int) (T' : Int → Int → Option Hd) (told er : Int) : Prop :=
  (¬ Valid f a ∧ told = 0 ∧ er = 1 ∧ T' = T) ∨ (Valid f a ∧ told = 0 ∧ er = 2 ∧ T f a = none ∧ T' = T) ∨ (Valid f a ∧ told = tellH ((T f a).getD (hd0 hot)) ∧ er = 0 ∧ T' = updT T f a (turnH ((T f a).getD (hd0 hot))))
theorem TurnT.same {hot : Int} {T1 T2 T1' T2' : Int → Int → Option Hd} {f a t1 e1 t2 e2 : Int} (h1 : TurnT hot T1 f a T1' t1 e1) (h2 : TurnT hot T2 f a T2' t2 e2) (hT : T1 f a = T2 f a) (n1 : e1 ≠ 2) (n2 : e2 ≠ 2) : t1 = t2 ∧ T1' f a = T2' f a := by
  rcases h1 with ⟨v, rfl, rfl, rfl⟩ | ⟨v, rfl, rfl, _⟩ | ⟨v, rfl, rfl, rfl⟩
  · rcases h2 with ⟨v', rfl, rfl, rfl⟩ | ⟨v', _⟩ | ⟨v', _⟩
    · exact ⟨rfl, hT⟩
    · exact absurd v' v
    · exact absurd v' v
  · exact absurd rfl n1
  · rcases h2 with ⟨v', _⟩ | ⟨v', rfl, rfl, _⟩ | ⟨v', rfl, rfl, rfl⟩
    · exact absurd v v'
    · exact absurd rfl n2
    · rw [hT]; exact ⟨rfl, by simp [updT]⟩
theorem TurnT.other {hot : Int} {T1 T1' : Int → Int → Option Hd} {f a g b t1 e1 : Int} (h1 : TurnT hot T1 f a T1' t1 e1) (hne : ¬ (f = g ∧ a = b)) : T1' g b = T1 g b := by
  rcases h1 with ⟨v, rfl, rfl, rfl⟩ | ⟨v, rfl, rfl, _, rfl⟩ | ⟨v, rfl, rfl, rfl⟩
  · rfl
  · rfl
  · unfold updT; rw [if_neg (fun h => hne ⟨h.1.symm, h.2.symm⟩)]
theorem turnT {w : World} {hb mb n : Nat} {hot : Int} {T : Int → Int → Option Hd} (h : HeatT w hb hot mb n T) (f a : Int) (hn : n < 100000) :
    Calls Try.prog 9 #[.pointer (some ⟨hb, 0, none⟩), .int .i64 f, .int .i64 a] w fun e w' => ∃ told er T', e = .returned (.tuple #[.int .i64 told, .int .i64 er]) ∧
      HeatT w' hb hot mb (n + 1) T' ∧ w.grownBy w' (some mb) ∧ TurnT hot T f a T' told er ∧ (n < 100 → er ≠ 2) := by
  by_cases hv : Valid f a
  · obtain ⟨f0, f1, a0, a1⟩ := hv
    obtain ⟨m, hm, hmT⟩ := h.ex
    cases hT : T f a with
    | some k =>
      have hx : m (place f a) = some (headV f a k.c k.l k.x k.s) := by rw [hmT, hT]; rfl
      obtain ⟨k1, k2, k3, k4, k5, k6⟩ := h.ok f a k hT
      have := h.hot2
      refine (turn_known hm f a k.c k.l k.x k.s hn f0 f1 a0 a1 hx k4 (by omega) k3).mono ?_
      rintro e w' ⟨rfl, h2, hg⟩
      exact ⟨_, _, _, rfl, h.upd hmT (turnH_ok (h.ok f a k hT) h.hot1) h2, hg, .inr (.inr ⟨⟨f0, f1, a0, a1⟩, by rw [hT]; rfl, rfl, by rw [hT]; rfl⟩), by intro _ h; cases h⟩
    | none =>
      have hx : m (place f a) = none := by rw [hmT, hT]; rfl
      obtain ⟨sz, hsz, hlen⟩ := hm.map.len (t := 48) (e := 47) Try.underlying48
      by_cases hl : 100 ≤ sz
      · refine (turn_large hm f a sz hl hlen f0 f1 a0 a1 hx).mono ?_
        rintro e w' ⟨rfl, hB⟩
        exact ⟨_, _, _, rfl, (h.below hB).mono (by omega), grownBy_of_below hB _, .inr (.inl ⟨⟨f0, f1, a0, a1⟩, rfl, rfl, hT, rfl⟩), by intro h; omega⟩
      · refine (turn_new' hm f a sz (by omega) hlen (by omega) f0 f1 a0 a1 hx h.hot1 h.hot2).mono ?_
        rintro e w' ⟨rfl, h2, hg⟩
        exact ⟨_, _, _, rfl, h.upd hmT (turnH_ok (hd0_ok h.hot1) h.hot1) h2, hg, .inr (.inr ⟨⟨f0, f1, a0, a1⟩, by rw [hT]; rfl, rfl, by rw [hT]; rfl⟩), by intro _ h; cases h⟩
  · refine (turn_bad _ f a (by unfold Valid at hv; omega)).mono ?_
    rintro e w' ⟨rfl, rfl⟩
    exact ⟨_, _, _, rfl, h.mono (by omega), ⟨rfl, rfl, rfl, Nat.le_refl _, fun _ _ _ => rfl⟩, .inl ⟨hv, rfl, rfl, rfl⟩, by intro _ h; cases h⟩

/-- What Taken does. -/
def takenE (T : Int → Int → Option Hd) (f a : Int) : Int := match T f a with | none => 5 | some h => if h.s = 1 then 0 else 8
def takenN (T : Int → Int → Option Hd) (f a : Int) (good : Bool) : Int → Int → Option Hd := match T f a with | none => T | some h => if h.s = 1 then updT T f a (if good then goodH h else badH h) else T
theorem taken_same {T1 T2 : Int → Int → Option Hd} {f a : Int} (hT : T1 f a = T2 f a) (good : Bool) : takenE T1 f a = takenE T2 f a ∧ takenN T1 f a good f a = takenN T2 f a good f a := by
  unfold takenE takenN
  rw [hT]
  cases h : T2 f a with
  | none => exact ⟨rfl, by simp [hT, h]⟩
  | some k =>
    refine ⟨rfl, ?_⟩
    by_cases hs : k.s = 1
    · simp [hs, updT]
    · simp [hs, hT, h]
theorem taken_other {T : Int → Int → Option Hd} {f a g b : Int} (good : Bool) (hne : ¬ (f = g ∧ a = b)) : takenN T f a good g b = T g b := by
  unfold takenN
  cases h : T f a with
  | none => rfl
  | some k =>
    by_cases hs : k.s = 1
    · simp only [hs, if_true]; unfold updT; rw [if_neg (fun h => hne ⟨h.1.symm, h.2.symm⟩)]
    · simp only [hs, if_false]
theorem takenT {w : World} {hb mb n : Nat} {hot : Int} {T : Int → Int → Option Hd} (h : HeatT w hb hot mb n T) (f a : Int) (good : Bool) (hn : n < 100000) (wf : (Lit.int .i64 f).wf = true) (wa : (Lit.int .i64 a).wf = true) :
    Calls Try.prog 10 #[.pointer (some ⟨hb, 0, none⟩), .int .i64 f, .int .i64 a, .bool good] w fun e w' => e = .returned (.int .i64 (takenE T f a)) ∧
      HeatT w' hb hot mb (n + 1) (takenN T f a good) ∧ w.grownBy w' (some mb) := by
  obtain ⟨m, hm, hmT⟩ := h.ex
  unfold takenE takenN
  cases hT : T f a with
  | none =>
    refine (taken_none hm f a good wf wa (by rw [hmT, hT]; rfl)).mono ?_
    rintro e w' ⟨rfl, hB⟩
    exact ⟨rfl, (h.below hB).mono (by omega), grownBy_of_below hB _⟩
  | some k =>
    obtain ⟨k1, k2, k3, k4, k5, k6⟩ := h.ok f a k hT
    have h2 := h.hot2
    have h1 := h.hot1
    by_cases hs : k.s = 1
    · have hx : m (place f a) = some (headV f a k.c k.l k.x 1) := by rw [hmT, hT, ← hs]; rfl
      cases good with
      | true =>
        refine (taken_good hm f a k.c k.l k.x hn wf wa hx).mono ?_
        rintro e w' ⟨rfl, h3, hg⟩
        exact ⟨by simp [hs], by simp only [hs, if_true]; exact h.upd hmT (goodH_ok (h.ok f a k hT) hs) h3, hg⟩
      | false =>
        refine (taken_bad hm f a k.c k.l k.x hn wf wa hx (by omega) (by omega) (by omega) (by omega)).mono ?_
        rintro e w' ⟨rfl, h3, hg⟩
        exact ⟨by simp [hs], by simp only [hs, if_true]; exact h.upd hmT (badH_ok (h.ok f a k hT) h1 hs) h3, hg⟩
    · refine (taken_state hm f a k.c k.l k.x k.s good wf wa (by rw [hmT, hT]; rfl) (by omega)).mono ?_
      rintro e w' ⟨rfl, hB⟩
      exact ⟨by simp [hs], by simp only [hs, if_false]; exact (h.below hB).mono (by omega), grownBy_of_below hB _⟩
end Go.Proofs.Ytefkifdhjabdiaa
