/- All: the walk over the map, ahead of the sort. -/
import Derived.Test.YtefkifdhjabdiaaHeatC
import Derived.Maps.RangeWalk
import Derived.Maps.AppendAt
import Derived.OwnWalk
namespace Go.Proofs.Ytefkifdhjabdiaa
set_option linter.unusedVariables false
set_option linter.unusedSimpArgs false
open Go.RowKit Go.Maps Go.Lib Go.Sort

theorem keyInv {v : Value} {kl : Lit} (h : keyOf Try.prog 52 v = some kl) : ∃ x : Int × Int, v = place x.1 x.2 := by
  unfold keyOf at h
  rw [Try.underlying52] at h
  obtain ⟨m, hm⟩ : ∃ m, Try.prog.types.size = m + 1 := ⟨Try.prog.types.size - 1, by have h : 0 < Try.prog.types.size := Nat.lt_of_le_of_lt (Nat.zero_le _) rowK; omega⟩
  rw [hm] at h
  simp only [keyTypeK, Bool.true_and] at h
  split at h
  · rename_i hf
    cases v <;> simp [Value.formed, Try.underlying52, cellsK] at hf
    rename_i cs
    obtain ⟨l⟩ := cs
    match l, hf with
    | [a, b], _ =>
      have kI : ∀ (n : Nat) (c : Value) (ls : List Lit), Try.prog.keyLits (n + 1) 3 [c] = some ls → ∃ z, c = .int .i64 z := by
        intro n c ls hl
        cases c <;> simp [Program.keyLits, Try.underlying3] at hl
        exact ⟨_, by rw [hl.1.1]⟩
      rw [Option.map_eq_some_iff] at h
      obtain ⟨ls, h, _⟩ := h
      rw [Program.keyLits.eq_def] at h
      simp only [Try.underlying52] at h
      split at h
      · rw [Option.map_eq_some_iff] at h
        obtain ⟨lss, h, _⟩ := h
        simp only [List.mapM_cons, List.mapM_nil, cellsInt, Value.cells, List.drop_zero, List.drop_succ_cons, List.take_succ_cons, List.take_zero] at h
        cases ha : Try.prog.keyLits (m + 1) 3 [a] with
        | none => rw [ha] at h; cases h
        | some la =>
          cases hb : Try.prog.keyLits (m + 1) 3 [b] with
          | none => rw [ha, hb] at h; cases h
          | some lb =>
            obtain ⟨x, rfl⟩ := kI _ _ _ ha
            obtain ⟨y, rfl⟩ := kI _ _ _ hb
            exact ⟨(x, y), rfl⟩
      · cases h
  · cases h
theorem infoH : (Try.prog.info? 47).map (fun i => (i.zero, i.size, i.bytes)) = some (some (headV 0 0 0 0 0 0), 6, 48) := by kernel_rfl

/-- What has come out, and that it comes no more. -/
structure EntsOf (T : Int → Int → Option Hd) (xs : List (Int × Int × Hd)) (left : Lit → Bool) : Prop where
  tab : ∀ x ∈ xs, T x.1 x.2.1 = some x.2.2
  once : xs.Pairwise fun x y => ¬ (x.1 = y.1 ∧ x.2.1 = y.2.1)
  gone : ∀ x ∈ xs, ∀ kl, keyOf Try.prog 52 (place x.1 x.2.1) = some kl → left kl = false
theorem EntsOf.step {T : Int → Int → Option Hd} {xs : List (Int × Int × Hd)} {left : Lit → Bool} (h : EntsOf T xs left) {f a : Int} {k : Hd} {kl : Lit} (hk : keyOf Try.prog 52 (place f a) = some kl) (hl : left kl = true) (hT : T f a = some k) :
    EntsOf T (xs ++ [(f, a, k)]) (fun z => left z && !z.sameKey kl) where
  tab := fun x hx => by
    rcases List.mem_append.1 hx with hx | hx
    · exact h.tab x hx
    · rw [List.mem_singleton] at hx; subst hx; exact hT
  once := List.pairwise_append.2 ⟨h.once, List.pairwise_singleton _ _, fun x hx y hy e => by
    rw [List.mem_singleton] at hy
    subst hy
    have := h.gone x hx kl (by rw [e.1, e.2]; exact hk)
    rw [hl] at this; cases this⟩
  gone := fun x hx kl' hk' => by
    rcases List.mem_append.1 hx with hx | hx
    · simp [h.gone x hx kl' hk']
    · rw [List.mem_singleton] at hx
      subst hx
      have e : kl' = kl := by rw [hk] at hk'; injection hk' with e; exact e.symm
      subst e
      simp [WideAt.sameKey_self (keyedK.key hk)]

theorem news_new (W : World) (n : Nat) (cs : List Value) (t : TypeId) (hn : n = W.heap.size) : ∀ j u, cs[j]? = some u → (W.alloc (.cells cs.toArray t)).cell? ((⟨n, 0, none⟩ : Addr).add j) = some u := by
  subst hn
  intro j u h
  have hb := heap_alloc_new W (.cells cs.toArray t)
  have e : (⟨W.heap.size, 0, none⟩ : Addr).add j = ⟨W.heap.size, j, none⟩ := by unfold Addr.add; split <;> simp_all
  rw [e]
  simp only [World.cell?, hb]
  simpa using h
theorem encH_len (x : Int × Int × Hd) : (encH x).length = 6 := rfl
theorem encH_one (x : Int × Int × Hd) : ∀ v ∈ encH x, v.oneCell' = true := by
  intro v hv
  simp only [encH, List.mem_cons, List.not_mem_nil, or_false] at hv
  rcases hv with rfl | rfl | rfl | rfl | rfl | rfl <;> rfl

/-- The loop of All. -/
def AllRel (w : World) (mb n r : Nat) (D : DataW Value) (T : Int → Int → Option Hd) (V : Value) (wr : World) : Prop :=
  ∃ (left : Lit → Bool) (cnt : Nat) (xs : List (Int × Int × Hd)), wr.ranges Try.prog 52 selfR mb r n D left cnt ∧ wr.ownsRow (r + 1) 47 6 V xs.length (xs.flatMap encH) ∧ EntsOf T xs left ∧ xs.length + cnt ≤ n ∧ Below w.heap.size w wr

set_option maxRecDepth 100000 in
set_option maxHeartbeats 4000000 in
theorem all_walk {w : World} {hb mb n : Nat} {hot : Int} {T : Int → Int → Option Hd} (h : HeatT w hb hot mb n T) (hn : n < 100000) (Q : Ending → World → Prop)
    (hQ : ∀ (v : Value) (xs : List (Int × Int × Hd)) (wr : World), wr.ownsRow (w.heap.size + 1) 47 6 v xs.length (xs.flatMap encH) → EntsOf T xs (fun _ => false) → xs.length ≤ n → Below w.heap.size w wr → Calls Try.prog 20 #[v, .func (.func 21) #[] #[]] wr fun e w' => e = .returned (.tuple #[]) ∧ Q (.returned v) w') :
    Calls Try.prog 14 #[.pointer (some ⟨hb, 0, none⟩)] w Q := by
  obtain ⟨i0, hi, hz0, hz1, hz2⟩ := info_parts infoH
  obtain ⟨m, hm, hmT⟩ := h.ex
  have g1 := hm.c1
  have hlt := h.lt
  obtain ⟨D, hown, hf⟩ := hm.map
  have HQ := Lib.hid hQ
  have HF := Lib.hid hf
  clear hQ hf
  go_enter Try.func14, Try.ntmps14
  go_wp2_with (first
    | (at_range; refine wpList_range_own _ rfl _ 48 rfl 52 47 keyedK Try.underlying48 _ mb n _ rfl hown ?_; intro w0 hrg0 hg0 hs0)
    | go_in)
  go_frame
  go_loopw [3] (fun V wr => AllRel w mb n w.heap.size D T V wr) (fun _ wr => wr.rangeLeft mb w.heap.size)
  case atStart =>
    exact ⟨_, _, [], hrg0, World.ownsRow_nil _ _ _ _, ⟨by simp, List.Pairwise.nil, by simp⟩, by simpa using hown.size_le, ⟨hg0.os, hg0.tape, hg0.output, hg0.size, fun k hk => hg0.block k hk (by simp)⟩⟩
  case round =>
    obtain ⟨left, cnt, xs, hrg, hrow, hE, hlen, hB⟩ := hrel
    have hrl := hrg.lt
    have hszB := hB.size
    have hxn : xs.length < 100000 := by omega
    go_wp2_with (first
      | (at_next; refine wpList_next_ranges _ rfl _ rfl 52 keyedK selfR (fun x : Int × Int => place x.1 x.2) (fun v : Value => v) (fun key kl hk => keyInv hk) (fun v y _ => ⟨v, rfl⟩) mb w.heap.size n _ _ _ rfl hrg ?_ ?_)
      | go_in)
    · intro hc0 hl0
      have hEE : EntsOf T xs (fun _ => false) := ⟨hE.tab, hE.once, fun _ _ _ _ => rfl⟩
      go_wp2_with (go_at_call 20; refine (HQ.out _ _ _ hrow hEE (by omega) hB).mono ?_; rintro e w' ⟨rfl, hQ⟩)
      exact hQ
    · intro f a c kl y1 y2 w' cnt' hkey hl hR hat hrg1 hlt1 hgr hsz hen
      obtain ⟨k, hT, rfl⟩ : ∃ k, T f a = some k ∧ c = hdV f a k := by
        unfold selfR at hR
        injection hR with hR
        injection hR with hR _
        subst hR
        have h1 : ∀ z, (m (place f a)).getD z = c := fun z => by
          have e1 := (HF.out _ _ hkey).2 z
          rw [hat] at e1
          injection e1 with e1
          exact e1.symm
        rw [hmT] at h1
        cases hT : T f a with
        | none => rw [hT] at h1; have a1 := h1 (.bool true); have a2 := h1 (.bool false); rw [← a2] at a1; cases a1
        | some k => rw [hT] at h1; exact ⟨k, rfl, (h1 (.bool true)).symm⟩
      have hrow1 := hrow.kept hgr (by
        by_cases hv : u3.ownBlock = none
        · exact .inl hv
        · right
          intro e
          have := hrow.lt _ e
          omega)
      have HE := Lib.hid hE
      clear hE hR hat
      unfold hdV headV at hen
      unfold hdV headV
      go_wp2_with (first
        | (at_builtin; refine wpList_append_own _ rfl _ _ 44 rfl (w.heap.size + 1) 47 i0 _ 6 48 Try.underlying44 hi hz0 hz1 hz2 rfl (by decide) _ _ _ rfl ((hrow1.alloc _).alloc _) ⟨wr.heap.size + 1, 0, none⟩ 1 1 (encH (f, a, k)) rfl rfl (news_new _ _ _ _ (by simp [hsz])) (encH_one _) (by unfold maxLen; omega) (by omega) (by simp; omega) ?_; intro v' w3 hown' hgrow3 hnil3)
        | go_in)
      have hv : ∀ j, u3.ownBlock = some j → w.heap.size + 1 ≤ j := fun j e => (hrow.lt j e).1
      have hrg3 := ((hrg1.alloc (.cells #[.int .i64 f, .int .i64 a, .int .i64 k.c, .int .i64 k.l, .int .i64 k.x, .int .i64 k.s] 47)).alloc (.cells (encH (f, a, k)).toArray 47)).kept hgrow3 (fun e => by have := hv _ e.symm; omega) (fun e => by have := hv _ e.symm; omega)
      have b1 := hB.grown hgr hszB (by intro j hj; cases hj; exact Nat.le_refl _)
      have b2 := (b1.alloc b1.size (.cells #[.int .i64 f, .int .i64 a, .int .i64 k.c, .int .i64 k.l, .int .i64 k.x, .int .i64 k.s] 47))
      have b3 := b2.alloc b2.size (.cells (encH (f, a, k)).toArray 47)
      have b4 := b3.grown hgrow3 b3.size (by intro j hj; have := hv _ hj; omega)
      refine ⟨⟨_, cnt', xs ++ [(f, a, k)], hrg3, by simpa using hown', HE.out.step hkey hl hT, by simp; omega, b4⟩, ?_⟩
      rw [hrg3.left_eq, hrg.left_eq]
      omega
end Go.Proofs.Ytefkifdhjabdiaa
