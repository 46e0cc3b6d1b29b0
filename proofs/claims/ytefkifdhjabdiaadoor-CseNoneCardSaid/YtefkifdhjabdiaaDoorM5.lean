/- What the laws' texts lean on, part 6: lemmas and the contracts of functions. No condition. -/
import Derived.Test.YtefkifdhjabdiaaDoorM4
import Derived.Test.YtefkifdhjabdiaaDoorM3
namespace Go.Proofs.YtefkifdhjabdiaaDoor
set_option maxHeartbeats 4000000
set_option linter.unusedVariables false
set_option linter.unusedSimpArgs false
set_option maxRecDepth 100000
theorem cutLoop_le {loop : Int} : ∀ {xs : List EIns} {i : Nat} {ns at_ : List Int} {f : Bool} {lo : Int} {ins : List EIns} {r : List Int × Bool × Int × List EIns}, cutLoop loop i xs ns at_ f lo ins = some r → r.2.2.2.length ≤ ins.length + xs.length
  | [], i, ns, at_, f, lo, ins, r, h => by
    unfold cutLoop at h
    injection h with h
    rw [← h]
    exact Nat.le_add_right _ _
  | x :: xs, i, [], at_, f, lo, ins, r, h => by
    unfold cutLoop at h
    injection h with h
    rw [← h]
    exact Nat.le_add_right _ _
  | x :: xs, i, n :: ns, at_, f, lo, ins, r, h => by
    rw [cutLoop] at h
    rw [List.length_cons]
    split at h
    · have := cutLoop_le h
      rw [List.length_append, List.length_singleton] at this
      omega
    · split at h
      · have := cutLoop_le h; omega
      · split at h
        · split at h
          · have := cutLoop_le h; omega
          · cases h
        · cases h
/-- What a cut that is right consists of. -/
theorem cut_right {t : ETrace} {to : List Int} (h : (cutF t to).2 = 0) : to.length = t.2.2.2.1.length ∧ ∃ r, cutLoop t.2.2.1 0 t.2.2.2.1 to [] true 0 [] = some r ∧ (cutF t to).1.2.2.2.1 = r.2.2.2 ∧ (cutF t to).1.2.2.1 = loopAt t r.2.2.1 r.2.2.2.length := by
  unfold cutF at h ⊢
  split at h
  · rename_i hl
    refine ⟨hl, ?_⟩
    rw [if_pos hl]
    cases hr : cutLoop t.2.2.1 0 t.2.2.2.1 to [] true 0 [] with
    | none => rw [hr] at h; exact absurd (show (3 : Int) = 0 from h) (by decide)
    | some r =>
      refine ⟨r, rfl, ?_⟩
      rw [hr] at h
      unfold cutThen cutEnd endF at h ⊢
      simp only at h ⊢
      split at h
      · rename_i hc
        rw [if_pos hc]
        exact ⟨rfl, rfl⟩
      · exact absurd (show (3 : Int) = 0 from h) (by decide)
  · exact absurd (show (3 : Int) = 0 from h) (by decide)
/-- Those that are kept. -/
structure CutKept (l : List EIns) (to : List Int) (loop : Int) (i : Nat) (lo : Int) (ins : List EIns) (ks : List Nat) : Prop where
  len : ks.length = ins.length
  spot : ∀ (j e : Nat), ks[j]? = some e → e < i ∧ to[e]? = some (e : Int) ∧ ∃ x y, l[e]? = some x ∧ ins[j]? = some y ∧ y.1 = x.1 ∧ y.2.2.2.2 = x.2.2.2.2
  inc : ∀ (j1 j2 e1 e2 : Nat), j1 < j2 → ks[j1]? = some e1 → ks[j2]? = some e2 → e1 < e2
  side : loop < (i : Int) → 0 ≤ loop → ∀ (j e : Nat), ks[j]? = some e → ((e : Int) < loop ↔ (j : Int) < lo)
  lole : loop < (i : Int) → 0 ≤ loop → lo ≤ (ins.length : Int)
theorem CutKept.skip {l : List EIns} {to : List Int} {loop : Int} {i : Nat} {lo : Int} {ins : List EIns} {ks : List Nat} (h : CutKept l to loop i lo ins ks) : CutKept l to loop (i + 1) (if (i : Int) = loop then (ins.length : Int) else lo) ins ks := by
  refine ⟨h.len, fun j e hj => ?_, h.inc, fun h1 h2 j e hj => ?_, fun h1 h2 => ?_⟩
  · obtain ⟨q1, q2⟩ := h.spot j e hj
    exact ⟨by omega, q2⟩
  · by_cases hi : (i : Int) = loop
    · rw [if_pos hi]
      obtain ⟨q1, _⟩ := h.spot j e hj
      have : j < ks.length := (List.getElem?_eq_some_iff.1 hj).1
      rw [h.len] at this
      constructor <;> intro <;> omega
    · rw [if_neg hi]
      exact h.side (by omega) h2 j e hj
  · by_cases hi : (i : Int) = loop
    · rw [if_pos hi]; exact Int.le_refl _
    · rw [if_neg hi]; exact h.lole (by omega) h2
theorem CutKept.keep {l : List EIns} {to : List Int} {loop : Int} {i : Nat} {lo : Int} {ins : List EIns} {ks : List Nat} (h : CutKept l to loop i lo ins ks) {x y : EIns} (hx : l[i]? = some x) (hto : to[i]? = some (i : Int)) (h1 : y.1 = x.1) (h2 : y.2.2.2.2 = x.2.2.2.2) : CutKept l to loop (i + 1) (if (i : Int) = loop then (ins.length : Int) else lo) (ins ++ [y]) (ks ++ [i]) := by
  have s := h.skip
  have cs : ∀ (j e : Nat), (ks ++ [i])[j]? = some e → ks[j]? = some e ∨ j = ks.length ∧ e = i := fun j e hj => by
    rcases Nat.lt_or_ge j ks.length with hl | hl
    · rw [List.getElem?_append_left hl] at hj; exact .inl hj
    · rw [List.getElem?_append_right hl] at hj
      have hj0 : j - ks.length = 0 := by
        have := (List.getElem?_eq_some_iff.1 hj).1
        simp at this
        omega
      rw [hj0] at hj
      simp at hj
      exact .inr ⟨by omega, hj.symm⟩
  refine ⟨by simp [h.len], fun j e hj => ?_, fun j1 j2 e1 e2 hlt hj1 hj2 => ?_, fun g1 g2 j e hj => ?_, fun g1 g2 => ?_⟩
  · rcases cs j e hj with hj | ⟨rfl, rfl⟩
    · obtain ⟨q1, q2, a, b, q3, q4, q5⟩ := h.spot j e hj
      exact ⟨by omega, q2, a, b, q3, by rw [List.getElem?_append_left (List.getElem?_eq_some_iff.1 q4).1]; exact q4, q5⟩
    · exact ⟨by omega, hto, x, y, hx, by rw [h.len]; simp, h1, h2⟩
  · rcases cs j1 e1 hj1 with q1 | q1
    · rcases cs j2 e2 hj2 with q2 | q2
      · exact h.inc j1 j2 e1 e2 hlt q1 q2
      · have := (h.spot j1 e1 q1).1
        omega
    · rcases cs j2 e2 hj2 with q2 | q2
      · have := (List.getElem?_eq_some_iff.1 q2).1
        omega
      · omega
  · rcases cs j e hj with hj | ⟨rfl, rfl⟩
    · exact s.side g1 g2 j e hj
    · have := s.lole g1 g2
      rw [h.len]
      constructor <;> intro <;> omega
  · have := s.lole g1 g2
    rw [List.length_append, List.length_singleton]
    omega
theorem cutLoop_kept {loop : Int} {l : List EIns} {to : List Int} (hl : to.length = l.length) : ∀ (k i : Nat) (at_ : List Int) (f : Bool) (lo : Int) (ins : List EIns) (ks : List Nat) (r : List Int × Bool × Int × List EIns), l.length - i = k → i ≤ l.length → cutLoop loop i (l.drop i) (to.drop i) at_ f lo ins = some r → CutKept l to loop i lo ins ks → ∃ ks', CutKept l to loop l.length r.2.2.1 r.2.2.2 ks'
  | 0, i, at_, f, lo, ins, ks, r, hk, hi, h, K => by
    obtain rfl : i = l.length := by omega
    rw [List.drop_eq_nil_of_le (Nat.le_refl _)] at h
    unfold cutLoop at h
    injection h with h
    rw [← h]
    exact ⟨ks, K⟩
  | k + 1, i, at_, f, lo, ins, ks, r, hk, hi, h, K => by
    have hlt : i < l.length := by omega
    have hlt2 : i < to.length := by omega
    have ex : l[i]? = some (l.getD i tIns.dflt) := by rw [List.getD_eq_getElem?_getD, List.getElem?_eq_getElem hlt]; rfl
    have et : to[i]? = some (to.getD i tI.dflt) := by rw [List.getD_eq_getElem?_getD, List.getElem?_eq_getElem hlt2]; rfl
    rw [dropCons (α := EIns) (Ty.dflt tIns) hlt, dropCons (α := Int) (Ty.dflt tI) hlt2, cutLoop] at h
    split at h
    · rename_i hv
      exact cutLoop_kept hl k (i + 1) _ _ _ _ _ r (by omega) (by omega) h (K.keep ex (by rw [et]; exact congrArg some hv) rfl rfl)
    · split at h
      · exact cutLoop_kept hl k (i + 1) _ _ _ _ _ r (by omega) (by omega) h K.skip
      · split at h
        · split at h
          · exact cutLoop_kept hl k (i + 1) _ _ _ _ _ r (by omega) (by omega) h K.skip
          · cases h
        · cases h
/-- What is left of a trace that was cut. -/
theorem cut_kept {t : ETrace} {to : List Int} (h : (cutF t to).2 = 0) : ∃ ks : List Nat, ks.length = (cutF t to).1.2.2.2.1.length ∧
    (∀ (j e : Nat), ks[j]? = some e → e < t.2.2.2.1.length ∧ to[e]? = some (e : Int) ∧ ∃ x y, t.2.2.2.1[e]? = some x ∧ (cutF t to).1.2.2.2.1[j]? = some y ∧ y.1 = x.1 ∧ y.2.2.2.2 = x.2.2.2.2) ∧
    (∀ (j1 j2 e1 e2 : Nat), j1 < j2 → ks[j1]? = some e1 → ks[j2]? = some e2 → e1 < e2) ∧
    (∀ (j e : Nat), ks[j]? = some e → ((e : Int) < t.2.2.1 ↔ (j : Int) < (cutF t to).1.2.2.1)) := by
  obtain ⟨hl, r, hr, e1, e2⟩ := cut_right h
  obtain ⟨ks, K⟩ := cutLoop_kept (loop := t.2.2.1) (l := t.2.2.2.1) (to := to) hl _ 0 [] true 0 [] [] r rfl (Nat.zero_le _) (by simpa using hr)
    ⟨rfl, fun j e h => by simp at h, fun _ _ _ _ _ h => by simp at h, fun _ _ j e h => by simp at h, fun _ _ => Int.le_refl _⟩
  rw [e1, e2]
  refine ⟨ks, K.len, K.spot, K.inc, fun j e hj => ?_⟩
  obtain ⟨q1, _⟩ := K.spot j e hj
  have hj' : j < ks.length := (List.getElem?_eq_some_iff.1 hj).1
  rw [K.len] at hj'
  unfold loopAt
  by_cases h1 : t.2.2.1 ≤ 0
  · rw [if_pos h1]
    constructor <;> intro <;> omega
  · rw [if_neg h1]
    by_cases h2 : (t.2.2.2.1.length : Int) ≤ t.2.2.1
    · rw [if_pos h2]
      constructor <;> intro <;> omega
    · rw [if_neg h2]
      exact K.side (by omega) (by omega) j e hj
theorem cut_shorter {t : ETrace} {to : List Int} (h : (cutF t to).2 = 0) : (cutF t to).1.2.2.2.1.length ≤ t.2.2.2.1.length := by
  obtain ⟨_, r, hr, e1, _⟩ := cut_right h
  rw [e1]
  have := cutLoop_le hr
  simpa using this
def isC (x : EIns) : Prop := x.1 = 1 ∨ x.1 = 2 ∨ x.1 = 3
theorem cseOf_re {x : EIns} (h : isC x) (to : List Int) (a : Bool) : cseOf (reIns to x) a = cseOf x a ∧ (cseOf x a).2 = true := by
  unfold cseOf reIns
  rcases h with h | h | h <;> simp [h]
structure CseInv (loop : Int) (l : List EIns) (i : Nat) (m : EKey → Option Int) (to : List Int) : Prop where
  len : to.length = l.length
  bnd : ∀ k f, m k = some f → f < (i : Int)
  has : ∀ (j : Nat) (x : EIns), j < i → l[j]? = some x → isC x → (m (cseOf x (decide ((j : Int) < loop))).1).isSome = true
  dup : ∀ (j : Nat) (x : EIns), j < i → l[j]? = some x → isC x → (∃ (j' : Nat) (x' : EIns), j' < j ∧ l[j']? = some x' ∧ isC x' ∧ (cseOf x' (decide ((j' : Int) < loop))).1 = (cseOf x (decide ((j : Int) < loop))).1) → to[j]? ≠ some (j : Int)
theorem updM_at (m : EKey → Option Int) (k : EKey) (v : Int) : updM (kt := tKey) m k v k = some v := by unfold updM; rw [if_pos rfl]
theorem updM_or (m : EKey → Option Int) (k k' : EKey) (v : Int) : updM (kt := tKey) m k v k' = some v ∨ updM (kt := tKey) m k v k' = m k' ∧ k' ≠ k := by
  unfold updM
  by_cases h : k' = k
  · rw [if_pos h]; exact .inl rfl
  · rw [if_neg h]; exact .inr ⟨rfl, h⟩
theorem CseInv.step {loop : Int} {l : List EIns} {i : Nat} {m : EKey → Option Int} {to : List Int} (h : CseInv loop l i m to) {x : EIns} (hx : l[i]? = some x) :
    CseInv loop l (i + 1) (cseStep loop i m (to.set i (i : Int)) (reIns (to.set i (i : Int)) x)).1 (cseStep loop i m (to.set i (i : Int)) (reIns (to.set i (i : Int)) x)).2 := by
  have hi : i < to.length := by rw [h.len]; exact (List.getElem?_eq_some_iff.1 hx).1
  have main : ∀ (S : (EKey → Option Int) × List Int), (∃ v, S.2 = to.set i v ∧ (isC x → (m (cseOf x (decide ((i : Int) < loop))).1).isSome = true → v < (i : Int))) → (∀ k f, S.1 k = some f → f < (i : Int) + 1) → (∀ k, (m k).isSome = true → (S.1 k).isSome = true) → (isC x → (S.1 (cseOf x (decide ((i : Int) < loop))).1).isSome = true) → CseInv loop l (i + 1) S.1 S.2 := by
    intro S ⟨v, e, hv⟩ hb hm hk
    refine ⟨by rw [e, List.length_set]; exact h.len, fun k f hf => by have := hb k f hf; omega, fun j y hj hy hc => ?_, fun j y hj hy hc hd => ?_⟩
    · rcases Nat.lt_or_ge j i with hlt | hge
      · exact hm _ (h.has j y hlt hy hc)
      · obtain rfl : j = i := by omega
        obtain rfl : y = x := Option.some.inj (hy.symm.trans hx)
        exact hk hc
    · rcases Nat.lt_or_ge j i with hlt | hge
      · rw [e, List.getElem?_set_ne (by omega)]
        exact h.dup j y hlt hy hc hd
      · obtain rfl : j = i := by omega
        obtain rfl : y = x := Option.some.inj (hy.symm.trans hx)
        obtain ⟨j', x', hj', hx', hc', he⟩ := hd
        have := h.has j' x' hj' hx' hc'
        rw [he] at this
        have := hv hc this
        rw [e, List.getElem?_set_self hi]
        intro q
        have := Option.some.inj q
        omega
  cases h1 : (cseOf (reIns (to.set i (i : Int)) x) (decide ((i : Int) < loop))).2 with
  | false =>
    have hn : ¬ isC x := fun hc => by rw [(cseOf_re hc _ _).1, (cseOf_re hc (to.set i (i : Int)) _).2] at h1; cases h1
    rw [cseStep_no h1]
    exact main (m, to.set i (i : Int)) ⟨_, rfl, fun hc => absurd hc hn⟩ (fun k f hf => by have := h.bnd k f hf; omega) (fun _ q => q) (fun hc => absurd hc hn)
  | true =>
    cases h2 : (m (cseOf (reIns (to.set i (i : Int)) x) (decide ((i : Int) < loop))).1).isSome with
    | true =>
      rw [cseStep_hit h1 h2, Nat.zero_add, List.set_set]
      obtain ⟨f, hf⟩ := Option.isSome_iff_exists.1 h2
      refine main (m, to.set i _) ⟨_, rfl, fun hc _ => ?_⟩ (fun k f hf => by have := h.bnd k f hf; omega) (fun _ q => q) (fun hc => ?_)
      · rw [hf]; exact h.bnd _ f hf
      · rw [(cseOf_re hc _ _).1] at h2; exact h2
    | false =>
      rw [cseStep_new h1 h2]
      refine main (updM (kt := tKey) m _ (i : Int), to.set i (i : Int)) ⟨_, rfl, fun hc q => ?_⟩ (fun k f hf => ?_) (fun k q => ?_) (fun hc => ?_)
      · rw [(cseOf_re hc _ _).1] at h2
        rw [h2] at q
        cases q
      · rcases updM_or m (cseOf (reIns (to.set i (i : Int)) x) (decide ((i : Int) < loop))).1 k (i : Int) with q | ⟨q, _⟩
        · have hf : updM (kt := tKey) m (cseOf (reIns (to.set i (i : Int)) x) (decide ((i : Int) < loop))).1 (i : Int) k = some f := hf
          rw [q] at hf
          have := Option.some.inj hf
          omega
        · have hf : updM (kt := tKey) m (cseOf (reIns (to.set i (i : Int)) x) (decide ((i : Int) < loop))).1 (i : Int) k = some f := hf
          rw [q] at hf
          have := h.bnd k f hf
          omega
      · show (updM (kt := tKey) m (cseOf (reIns (to.set i (i : Int)) x) (decide ((i : Int) < loop))).1 (i : Int) k).isSome = true
        rcases updM_or m (cseOf (reIns (to.set i (i : Int)) x) (decide ((i : Int) < loop))).1 k (i : Int) with e | ⟨e, _⟩
        · rw [e]; rfl
        · rw [e]; exact q
      · show (updM (kt := tKey) m (cseOf (reIns (to.set i (i : Int)) x) (decide ((i : Int) < loop))).1 (i : Int) (cseOf x (decide ((i : Int) < loop))).1).isSome = true
        rw [(cseOf_re hc _ _).1, updM_at]
        rfl
theorem cseLoop_inv {loop : Int} {l : List EIns} : ∀ (k i : Nat) (m : EKey → Option Int) (to : List Int), l.length - i = k → i ≤ l.length → CseInv loop l i m to → ∃ m', CseInv loop l l.length m' (cseLoop loop i (l.drop i) m to)
  | 0, i, m, to, hk, hi, h => by
    obtain rfl : i = l.length := by omega
    rw [List.drop_eq_nil_of_le (Nat.le_refl _)]
    exact ⟨m, h⟩
  | k + 1, i, m, to, hk, hi, h => by
    have hlt : i < l.length := by omega
    have ex : l[i]? = some (l.getD i tIns.dflt) := by rw [List.getD_eq_getElem?_getD, List.getElem?_eq_getElem hlt]; rfl
    rw [dropCons (α := EIns) (Ty.dflt tIns) hlt, cseLoop]
    exact cseLoop_inv k (i + 1) _ _ (by omega) (by omega) (h.step ex)
theorem cseTo_inv (t : ETrace) : ∃ m', CseInv t.2.2.1 t.2.2.2.1 t.2.2.2.1.length m' (cseTo t) := by
  have := cseLoop_inv (loop := t.2.2.1) (l := t.2.2.2.1) _ 0 (fun _ => none) (List.replicate t.2.2.2.1.length 0) rfl (Nat.zero_le _)
    ⟨List.length_replicate, fun _ _ h => (by cases h), fun j _ h => absurd h (Nat.not_lt_zero _), fun j _ h => absurd h (Nat.not_lt_zero _)⟩
  exact this
theorem cse_cut {p : EProg} {t : ETrace} (h : (cseDo p t).2 = 0) : cseDo p t = cutF t (cseTo t) := by
  unfold cseDo at h ⊢
  split at h
  · rename_i hc; rw [if_pos hc]
  · rename_i hc; exact absurd h hc
theorem cse_none {p : EProg} {t : ETrace} (he : (cseDo p t).2 = 0) {i k : Nat} (hk : k < i) (hi : i < (cseDo p t).1.2.2.2.1.length) (h0 : ((cseDo p t).1.2.2.2.1.getD i tIns.dflt).1 = ((cseDo p t).1.2.2.2.1.getD k tIns.dflt).1) :
    (((cseDo p t).1.2.2.2.1.getD i tIns.dflt).1 = 2 → ¬ ((cseDo p t).1.2.2.2.1.getD i tIns.dflt).2.2.2.2.2.2 = ((cseDo p t).1.2.2.2.1.getD k tIns.dflt).2.2.2.2.2.2) ∧ ¬ ((cseDo p t).1.2.2.2.1.getD i tIns.dflt).1 = 3 ∧
    (((cseDo p t).1.2.2.2.1.getD i tIns.dflt).1 = 1 → ((cseDo p t).1.2.2.2.1.getD i tIns.dflt).2.2.2.2.1 = ((cseDo p t).1.2.2.2.1.getD k tIns.dflt).2.2.2.2.1 → ¬ ((i : Int) < (cseDo p t).1.2.2.1 ↔ (k : Int) < (cseDo p t).1.2.2.1)) := by
  have ec := cse_cut he
  rw [ec] at he hi h0 ⊢
  obtain ⟨ks, len, spot, inc, side⟩ := cut_kept he
  obtain ⟨m', I⟩ := cseTo_inv t
  have ki : ∃ e, ks[i]? = some e := ⟨_, List.getElem?_eq_getElem (by omega)⟩
  have kk : ∃ e, ks[k]? = some e := ⟨_, List.getElem?_eq_getElem (by omega)⟩
  obtain ⟨ei, hei⟩ := ki
  obtain ⟨ek, hek⟩ := kk
  have hlt := inc k i ek ei hk hek hei
  have si := side i ei hei
  have sk := side k ek hek
  obtain ⟨bi, ti, xi, yi, lxi, lyi, opi, kni⟩ := spot i ei hei
  obtain ⟨bk, tk, xk, yk, lxk, lyk, opk, knk⟩ := spot k ek hek
  have gi : (cutF t (cseTo t)).1.2.2.2.1.getD i tIns.dflt = yi := by rw [List.getD_eq_getElem?_getD, lyi]; rfl
  have gk : (cutF t (cseTo t)).1.2.2.2.1.getD k tIns.dflt = yk := by rw [List.getD_eq_getElem?_getD, lyk]; rfl
  rw [gi, gk] at h0 ⊢
  have key : isC xi → isC xk → (cseOf xk (decide ((ek : Int) < t.2.2.1))).1 = (cseOf xi (decide ((ei : Int) < t.2.2.1))).1 → False := fun c1 c2 hq =>
    I.dup ei xi bi lxi c1 ⟨ek, xk, hlt, lxk, c2, hq⟩ ti
  have hop : xk.1 = xi.1 := by rw [← opi, ← opk, h0]
  refine ⟨fun h2 hK => ?_, fun h3 => ?_, fun h1 hN hs => ?_⟩
  · have a1 : xi.1 = 2 := by rw [← opi, h2]
    have a2 : xk.1 = 2 := by rw [hop, a1]
    have e : xk.2.2.2.2.2.2 = xi.2.2.2.2.2.2 := by rw [← kni, ← knk, hK]
    exact key (.inr (.inl a1)) (.inr (.inl a2)) (by unfold cseOf; rw [if_pos a1, if_pos a2]; simp only; rw [e, a1, a2])
  · have a1 : xi.1 = 3 := by rw [← opi, h3]
    have a2 : xk.1 = 3 := by rw [hop, a1]
    exact key (.inr (.inr a1)) (.inr (.inr a2)) (by unfold cseOf; simp [a1, a2])
  · have a1 : xi.1 = 1 := by rw [← opi, h1]
    have a2 : xk.1 = 1 := by rw [hop, a1]
    have e : xk.2.2.2.2.1 = xi.2.2.2.2.1 := by rw [← kni, ← knk, hN]
    have es : decide ((ek : Int) < t.2.2.1) = decide ((ei : Int) < t.2.2.1) := by
      rw [decide_eq_decide, si, sk]; exact hs.symm
    exact key (.inl a1) (.inl a2) (by unfold cseOf; rw [es]; simp [a1, a2, e])
theorem cse_shorter {p : EProg} {t : ETrace} (he : (cseDo p t).2 = 0) : (cseDo p t).1.2.2.2.1.length ≤ t.2.2.2.1.length := by
  have ec := cse_cut he
  rw [ec] at he ⊢
  exact cut_shorter he
theorem cse_small {p : EProg} {t : ETrace} (he : (cseDo p t).2 = 0) : (cseDo p t).1.2.2.2.1.length ≤ 300 := by
  have h1 := cse_shorter he
  have hc : checkF p t = 0 := by
    unfold cseDo at he
    split at he
    · assumption
    · rename_i h; exact absurd he h
  have := (check_iff.1 hc).n
  omega
noncomputable def oc63 : Orc where
  pure := fun f args => match f, args with
    | 15, [] => some (.c (.bool (true)))
    | 23, [a0, a1] => match dA tProg a0, dA tTrace a1 with
      | some x0, some x1 => some (.tup [.agg (Ty.enc tTrace ((cseDo x0 x1).1)), .c (.int .i64 ((cseDo x0 x1).2))])
      | _, _ => none
    | _, _ => none
  heap := fun _ _ _ => none
def cseNone_lv : LV := ⟨(F2 (false :: true :: false :: true :: false :: true :: F8 (F4 (F2 (false :: true :: true :: F2 (true :: true :: F32 (F32 (F4 (F2 ([])))))))))), []⟩
noncomputable def cseNone_T (p : EProg) (t : ETrace) : Tree :=
  .call 23 [.agg (Ty.enc tProg p), .agg (Ty.enc tTrace t)] false (.tup [.agg (Ty.enc tTrace (cseDo p t).1), .c (.int .i64 (cseDo p t).2)]) <|
  .ite ((!(decide ((cseDo p t).2 = 0))))
  (.call 15 [] false (.c (.bool true)) <|
   .ret (.c (.bool true)) [.cells 39 (Ty.enc tProg p), .cells 29 (Ty.enc tTrace t), .cells 29 (Ty.enc tTrace (cseDo p t).1)])
  (.stop (lp (bodyOf Tryd.f7) 0) (J2 (.junk :: .c (.ptr 1 0 0 0) :: .junk :: .c (.ptr 2 0 0 0) :: J16 (.junk :: .c (.int .i64 ((cseDo p t).1.2.2.2.1.length : Int)) :: .c (.int .i64 0) :: J32 (J32 (J8 (J2 ([]))))))) [.cells 39 (Ty.enc tProg p), .cells 29 (Ty.enc tTrace t), .cells 29 (Ty.enc tTrace (cseDo p t).1)])
theorem cseNone_T_ok (p : EProg) (t : ETrace) : aRun Tryd.prog oc63 Tryd.f7 cseNone_lv 3000 [.code (bodyOf Tryd.f7)] ([.agg (tProg.enc p), .agg (tTrace.enc t)] ++ List.replicate (Func.ntmps Tryd.f7 - 2) .junk) [] = cseNone_T p t := by kernel_rfl
noncomputable def cseNone_l1_R (p : EProg) (t : ETrace) (i : Nat) (k : Nat) : Tree :=
  .ite (decide (((k : Nat) : Int) < ((i : Nat) : Int)))
  (.need ((0 : Int) ≤ ((i : Nat) : Int) ∧ (((i : Nat) : Int) : Int) < ((cseDo p t).1.2.2.2.1.length : Int)) <|
   .need (i < (cseDo p t).1.2.2.2.1.length) <|
   .need ((0 : Int) ≤ ((k : Nat) : Int) ∧ (((k : Nat) : Int) : Int) < ((cseDo p t).1.2.2.2.1.length : Int)) <|
   .need (k < (cseDo p t).1.2.2.2.1.length) <|
   .ite (decide (((cseDo p t).1.2.2.2.1.getD i tIns.dflt).1 = ((cseDo p t).1.2.2.2.1.getD k tIns.dflt).1))
   (.ite (decide (((cseDo p t).1.2.2.2.1.getD i tIns.dflt).1 = 2))
    (.ite ((decide (((cseDo p t).1.2.2.2.1.getD i tIns.dflt).2.2.2.2.2.2.1 = ((cseDo p t).1.2.2.2.1.getD k tIns.dflt).2.2.2.2.2.2.1) && (decide (((cseDo p t).1.2.2.2.1.getD i tIns.dflt).2.2.2.2.2.2.2 = ((cseDo p t).1.2.2.2.1.getD k tIns.dflt).2.2.2.2.2.2.2) && true)))
     (.ret (.c (.lit false)) [.cells 29 (Ty.enc tTrace t), .cells 29 (Ty.enc tTrace (cseDo p t).1), .cells 46 [.int .i64 ((cseDo p t).1.2.2.2.1.getD i tIns.dflt).1, .int .i64 ((cseDo p t).1.2.2.2.1.getD i tIns.dflt).2.1, .int .i64 ((cseDo p t).1.2.2.2.1.getD i tIns.dflt).2.2.1, .int .i64 ((cseDo p t).1.2.2.2.1.getD i tIns.dflt).2.2.2.1, .int .i64 ((cseDo p t).1.2.2.2.1.getD i tIns.dflt).2.2.2.2.1, .int .i64 ((cseDo p t).1.2.2.2.1.getD i tIns.dflt).2.2.2.2.2.1, .int .i64 ((cseDo p t).1.2.2.2.1.getD i tIns.dflt).2.2.2.2.2.2.1, .int .i64 ((cseDo p t).1.2.2.2.1.getD i tIns.dflt).2.2.2.2.2.2.2], .cells 46 [.int .i64 ((cseDo p t).1.2.2.2.1.getD k tIns.dflt).1, .int .i64 ((cseDo p t).1.2.2.2.1.getD k tIns.dflt).2.1, .int .i64 ((cseDo p t).1.2.2.2.1.getD k tIns.dflt).2.2.1, .int .i64 ((cseDo p t).1.2.2.2.1.getD k tIns.dflt).2.2.2.1, .int .i64 ((cseDo p t).1.2.2.2.1.getD k tIns.dflt).2.2.2.2.1, .int .i64 ((cseDo p t).1.2.2.2.1.getD k tIns.dflt).2.2.2.2.2.1, .int .i64 ((cseDo p t).1.2.2.2.1.getD k tIns.dflt).2.2.2.2.2.2.1, .int .i64 ((cseDo p t).1.2.2.2.1.getD k tIns.dflt).2.2.2.2.2.2.2]])
     (.ite (decide (((cseDo p t).1.2.2.2.1.getD i tIns.dflt).1 = 3))
      (.ret (.c (.lit false)) [.cells 29 (Ty.enc tTrace t), .cells 29 (Ty.enc tTrace (cseDo p t).1), .cells 46 [.int .i64 ((cseDo p t).1.2.2.2.1.getD i tIns.dflt).1, .int .i64 ((cseDo p t).1.2.2.2.1.getD i tIns.dflt).2.1, .int .i64 ((cseDo p t).1.2.2.2.1.getD i tIns.dflt).2.2.1, .int .i64 ((cseDo p t).1.2.2.2.1.getD i tIns.dflt).2.2.2.1, .int .i64 ((cseDo p t).1.2.2.2.1.getD i tIns.dflt).2.2.2.2.1, .int .i64 ((cseDo p t).1.2.2.2.1.getD i tIns.dflt).2.2.2.2.2.1, .int .i64 ((cseDo p t).1.2.2.2.1.getD i tIns.dflt).2.2.2.2.2.2.1, .int .i64 ((cseDo p t).1.2.2.2.1.getD i tIns.dflt).2.2.2.2.2.2.2], .cells 46 [.int .i64 ((cseDo p t).1.2.2.2.1.getD k tIns.dflt).1, .int .i64 ((cseDo p t).1.2.2.2.1.getD k tIns.dflt).2.1, .int .i64 ((cseDo p t).1.2.2.2.1.getD k tIns.dflt).2.2.1, .int .i64 ((cseDo p t).1.2.2.2.1.getD k tIns.dflt).2.2.2.1, .int .i64 ((cseDo p t).1.2.2.2.1.getD k tIns.dflt).2.2.2.2.1, .int .i64 ((cseDo p t).1.2.2.2.1.getD k tIns.dflt).2.2.2.2.2.1, .int .i64 ((cseDo p t).1.2.2.2.1.getD k tIns.dflt).2.2.2.2.2.2.1, .int .i64 ((cseDo p t).1.2.2.2.1.getD k tIns.dflt).2.2.2.2.2.2.2]])
      (.ite (decide (((cseDo p t).1.2.2.2.1.getD i tIns.dflt).1 = 1))
       (.ite (decide (((cseDo p t).1.2.2.2.1.getD i tIns.dflt).2.2.2.2.1 = ((cseDo p t).1.2.2.2.1.getD k tIns.dflt).2.2.2.2.1))
        (.ite (((decide (((i : Nat) : Int) < (cseDo p t).1.2.2.1)) == (decide (((k : Nat) : Int) < (cseDo p t).1.2.2.1))))
         (.ret (.c (.lit false)) [.cells 29 (Ty.enc tTrace t), .cells 29 (Ty.enc tTrace (cseDo p t).1), .cells 46 [.int .i64 ((cseDo p t).1.2.2.2.1.getD i tIns.dflt).1, .int .i64 ((cseDo p t).1.2.2.2.1.getD i tIns.dflt).2.1, .int .i64 ((cseDo p t).1.2.2.2.1.getD i tIns.dflt).2.2.1, .int .i64 ((cseDo p t).1.2.2.2.1.getD i tIns.dflt).2.2.2.1, .int .i64 ((cseDo p t).1.2.2.2.1.getD i tIns.dflt).2.2.2.2.1, .int .i64 ((cseDo p t).1.2.2.2.1.getD i tIns.dflt).2.2.2.2.2.1, .int .i64 ((cseDo p t).1.2.2.2.1.getD i tIns.dflt).2.2.2.2.2.2.1, .int .i64 ((cseDo p t).1.2.2.2.1.getD i tIns.dflt).2.2.2.2.2.2.2], .cells 46 [.int .i64 ((cseDo p t).1.2.2.2.1.getD k tIns.dflt).1, .int .i64 ((cseDo p t).1.2.2.2.1.getD k tIns.dflt).2.1, .int .i64 ((cseDo p t).1.2.2.2.1.getD k tIns.dflt).2.2.1, .int .i64 ((cseDo p t).1.2.2.2.1.getD k tIns.dflt).2.2.2.1, .int .i64 ((cseDo p t).1.2.2.2.1.getD k tIns.dflt).2.2.2.2.1, .int .i64 ((cseDo p t).1.2.2.2.1.getD k tIns.dflt).2.2.2.2.2.1, .int .i64 ((cseDo p t).1.2.2.2.1.getD k tIns.dflt).2.2.2.2.2.2.1, .int .i64 ((cseDo p t).1.2.2.2.1.getD k tIns.dflt).2.2.2.2.2.2.2]])
         (.need (inR .i64 (((k : Nat) : Int) + 1)) <|
          .stop (lp (bodyOf Tryd.f7) 1) (J2 (.junk :: .c (.ptr 0 0 0 0) :: .junk :: .c (.ptr 1 0 0 0) :: .junk :: .c (.int .i64 ((i : Nat) : Int)) :: J8 (J4 (J2 (.junk :: .c (.int .i64 ((cseDo p t).1.2.2.2.1.length : Int)) :: .c (.int .i64 ((i : Nat) : Int)) :: J2 (.c (.int .i64 ((i : Nat) : Int)) :: .c (.int .i64 (((k : Nat) : Int) + 1)) :: J32 (J32 (J4 (J2 ([])))))))))) [.cells 29 (Ty.enc tTrace t), .cells 29 (Ty.enc tTrace (cseDo p t).1), .cells 46 [.int .i64 ((cseDo p t).1.2.2.2.1.getD i tIns.dflt).1, .int .i64 ((cseDo p t).1.2.2.2.1.getD i tIns.dflt).2.1, .int .i64 ((cseDo p t).1.2.2.2.1.getD i tIns.dflt).2.2.1, .int .i64 ((cseDo p t).1.2.2.2.1.getD i tIns.dflt).2.2.2.1, .int .i64 ((cseDo p t).1.2.2.2.1.getD i tIns.dflt).2.2.2.2.1, .int .i64 ((cseDo p t).1.2.2.2.1.getD i tIns.dflt).2.2.2.2.2.1, .int .i64 ((cseDo p t).1.2.2.2.1.getD i tIns.dflt).2.2.2.2.2.2.1, .int .i64 ((cseDo p t).1.2.2.2.1.getD i tIns.dflt).2.2.2.2.2.2.2], .cells 46 [.int .i64 ((cseDo p t).1.2.2.2.1.getD k tIns.dflt).1, .int .i64 ((cseDo p t).1.2.2.2.1.getD k tIns.dflt).2.1, .int .i64 ((cseDo p t).1.2.2.2.1.getD k tIns.dflt).2.2.1, .int .i64 ((cseDo p t).1.2.2.2.1.getD k tIns.dflt).2.2.2.1, .int .i64 ((cseDo p t).1.2.2.2.1.getD k tIns.dflt).2.2.2.2.1, .int .i64 ((cseDo p t).1.2.2.2.1.getD k tIns.dflt).2.2.2.2.2.1, .int .i64 ((cseDo p t).1.2.2.2.1.getD k tIns.dflt).2.2.2.2.2.2.1, .int .i64 ((cseDo p t).1.2.2.2.1.getD k tIns.dflt).2.2.2.2.2.2.2]]))
        (.need (inR .i64 (((k : Nat) : Int) + 1)) <|
         .stop (lp (bodyOf Tryd.f7) 1) (J2 (.junk :: .c (.ptr 0 0 0 0) :: .junk :: .c (.ptr 1 0 0 0) :: .junk :: .c (.int .i64 ((i : Nat) : Int)) :: J8 (J4 (J2 (.junk :: .c (.int .i64 ((cseDo p t).1.2.2.2.1.length : Int)) :: .c (.int .i64 ((i : Nat) : Int)) :: J2 (.c (.int .i64 ((i : Nat) : Int)) :: .c (.int .i64 (((k : Nat) : Int) + 1)) :: J32 (J32 (J4 (J2 ([])))))))))) [.cells 29 (Ty.enc tTrace t), .cells 29 (Ty.enc tTrace (cseDo p t).1), .cells 46 [.int .i64 ((cseDo p t).1.2.2.2.1.getD i tIns.dflt).1, .int .i64 ((cseDo p t).1.2.2.2.1.getD i tIns.dflt).2.1, .int .i64 ((cseDo p t).1.2.2.2.1.getD i tIns.dflt).2.2.1, .int .i64 ((cseDo p t).1.2.2.2.1.getD i tIns.dflt).2.2.2.1, .int .i64 ((cseDo p t).1.2.2.2.1.getD i tIns.dflt).2.2.2.2.1, .int .i64 ((cseDo p t).1.2.2.2.1.getD i tIns.dflt).2.2.2.2.2.1, .int .i64 ((cseDo p t).1.2.2.2.1.getD i tIns.dflt).2.2.2.2.2.2.1, .int .i64 ((cseDo p t).1.2.2.2.1.getD i tIns.dflt).2.2.2.2.2.2.2], .cells 46 [.int .i64 ((cseDo p t).1.2.2.2.1.getD k tIns.dflt).1, .int .i64 ((cseDo p t).1.2.2.2.1.getD k tIns.dflt).2.1, .int .i64 ((cseDo p t).1.2.2.2.1.getD k tIns.dflt).2.2.1, .int .i64 ((cseDo p t).1.2.2.2.1.getD k tIns.dflt).2.2.2.1, .int .i64 ((cseDo p t).1.2.2.2.1.getD k tIns.dflt).2.2.2.2.1, .int .i64 ((cseDo p t).1.2.2.2.1.getD k tIns.dflt).2.2.2.2.2.1, .int .i64 ((cseDo p t).1.2.2.2.1.getD k tIns.dflt).2.2.2.2.2.2.1, .int .i64 ((cseDo p t).1.2.2.2.1.getD k tIns.dflt).2.2.2.2.2.2.2]]))
       (.need (inR .i64 (((k : Nat) : Int) + 1)) <|
        .stop (lp (bodyOf Tryd.f7) 1) (J2 (.junk :: .c (.ptr 0 0 0 0) :: .junk :: .c (.ptr 1 0 0 0) :: .junk :: .c (.int .i64 ((i : Nat) : Int)) :: J8 (J4 (J2 (.junk :: .c (.int .i64 ((cseDo p t).1.2.2.2.1.length : Int)) :: .c (.int .i64 ((i : Nat) : Int)) :: J2 (.c (.int .i64 ((i : Nat) : Int)) :: .c (.int .i64 (((k : Nat) : Int) + 1)) :: J32 (J32 (J4 (J2 ([])))))))))) [.cells 29 (Ty.enc tTrace t), .cells 29 (Ty.enc tTrace (cseDo p t).1), .cells 46 [.int .i64 ((cseDo p t).1.2.2.2.1.getD i tIns.dflt).1, .int .i64 ((cseDo p t).1.2.2.2.1.getD i tIns.dflt).2.1, .int .i64 ((cseDo p t).1.2.2.2.1.getD i tIns.dflt).2.2.1, .int .i64 ((cseDo p t).1.2.2.2.1.getD i tIns.dflt).2.2.2.1, .int .i64 ((cseDo p t).1.2.2.2.1.getD i tIns.dflt).2.2.2.2.1, .int .i64 ((cseDo p t).1.2.2.2.1.getD i tIns.dflt).2.2.2.2.2.1, .int .i64 ((cseDo p t).1.2.2.2.1.getD i tIns.dflt).2.2.2.2.2.2.1, .int .i64 ((cseDo p t).1.2.2.2.1.getD i tIns.dflt).2.2.2.2.2.2.2], .cells 46 [.int .i64 ((cseDo p t).1.2.2.2.1.getD k tIns.dflt).1, .int .i64 ((cseDo p t).1.2.2.2.1.getD k tIns.dflt).2.1, .int .i64 ((cseDo p t).1.2.2.2.1.getD k tIns.dflt).2.2.1, .int .i64 ((cseDo p t).1.2.2.2.1.getD k tIns.dflt).2.2.2.1, .int .i64 ((cseDo p t).1.2.2.2.1.getD k tIns.dflt).2.2.2.2.1, .int .i64 ((cseDo p t).1.2.2.2.1.getD k tIns.dflt).2.2.2.2.2.1, .int .i64 ((cseDo p t).1.2.2.2.1.getD k tIns.dflt).2.2.2.2.2.2.1, .int .i64 ((cseDo p t).1.2.2.2.1.getD k tIns.dflt).2.2.2.2.2.2.2]]))))
    (.ite (decide (((cseDo p t).1.2.2.2.1.getD i tIns.dflt).1 = 3))
     (.ret (.c (.lit false)) [.cells 29 (Ty.enc tTrace t), .cells 29 (Ty.enc tTrace (cseDo p t).1), .cells 46 [.int .i64 ((cseDo p t).1.2.2.2.1.getD i tIns.dflt).1, .int .i64 ((cseDo p t).1.2.2.2.1.getD i tIns.dflt).2.1, .int .i64 ((cseDo p t).1.2.2.2.1.getD i tIns.dflt).2.2.1, .int .i64 ((cseDo p t).1.2.2.2.1.getD i tIns.dflt).2.2.2.1, .int .i64 ((cseDo p t).1.2.2.2.1.getD i tIns.dflt).2.2.2.2.1, .int .i64 ((cseDo p t).1.2.2.2.1.getD i tIns.dflt).2.2.2.2.2.1, .int .i64 ((cseDo p t).1.2.2.2.1.getD i tIns.dflt).2.2.2.2.2.2.1, .int .i64 ((cseDo p t).1.2.2.2.1.getD i tIns.dflt).2.2.2.2.2.2.2], .cells 46 [.int .i64 ((cseDo p t).1.2.2.2.1.getD k tIns.dflt).1, .int .i64 ((cseDo p t).1.2.2.2.1.getD k tIns.dflt).2.1, .int .i64 ((cseDo p t).1.2.2.2.1.getD k tIns.dflt).2.2.1, .int .i64 ((cseDo p t).1.2.2.2.1.getD k tIns.dflt).2.2.2.1, .int .i64 ((cseDo p t).1.2.2.2.1.getD k tIns.dflt).2.2.2.2.1, .int .i64 ((cseDo p t).1.2.2.2.1.getD k tIns.dflt).2.2.2.2.2.1, .int .i64 ((cseDo p t).1.2.2.2.1.getD k tIns.dflt).2.2.2.2.2.2.1, .int .i64 ((cseDo p t).1.2.2.2.1.getD k tIns.dflt).2.2.2.2.2.2.2]])
     (.ite (decide (((cseDo p t).1.2.2.2.1.getD i tIns.dflt).1 = 1))
      (.ite (decide (((cseDo p t).1.2.2.2.1.getD i tIns.dflt).2.2.2.2.1 = ((cseDo p t).1.2.2.2.1.getD k tIns.dflt).2.2.2.2.1))
       (.ite (((decide (((i : Nat) : Int) < (cseDo p t).1.2.2.1)) == (decide (((k : Nat) : Int) < (cseDo p t).1.2.2.1))))
        (.ret (.c (.lit false)) [.cells 29 (Ty.enc tTrace t), .cells 29 (Ty.enc tTrace (cseDo p t).1), .cells 46 [.int .i64 ((cseDo p t).1.2.2.2.1.getD i tIns.dflt).1, .int .i64 ((cseDo p t).1.2.2.2.1.getD i tIns.dflt).2.1, .int .i64 ((cseDo p t).1.2.2.2.1.getD i tIns.dflt).2.2.1, .int .i64 ((cseDo p t).1.2.2.2.1.getD i tIns.dflt).2.2.2.1, .int .i64 ((cseDo p t).1.2.2.2.1.getD i tIns.dflt).2.2.2.2.1, .int .i64 ((cseDo p t).1.2.2.2.1.getD i tIns.dflt).2.2.2.2.2.1, .int .i64 ((cseDo p t).1.2.2.2.1.getD i tIns.dflt).2.2.2.2.2.2.1, .int .i64 ((cseDo p t).1.2.2.2.1.getD i tIns.dflt).2.2.2.2.2.2.2], .cells 46 [.int .i64 ((cseDo p t).1.2.2.2.1.getD k tIns.dflt).1, .int .i64 ((cseDo p t).1.2.2.2.1.getD k tIns.dflt).2.1, .int .i64 ((cseDo p t).1.2.2.2.1.getD k tIns.dflt).2.2.1, .int .i64 ((cseDo p t).1.2.2.2.1.getD k tIns.dflt).2.2.2.1, .int .i64 ((cseDo p t).1.2.2.2.1.getD k tIns.dflt).2.2.2.2.1, .int .i64 ((cseDo p t).1.2.2.2.1.getD k tIns.dflt).2.2.2.2.2.1, .int .i64 ((cseDo p t).1.2.2.2.1.getD k tIns.dflt).2.2.2.2.2.2.1, .int .i64 ((cseDo p t).1.2.2.2.1.getD k tIns.dflt).2.2.2.2.2.2.2]])
        (.need (inR .i64 (((k : Nat) : Int) + 1)) <|
         .stop (lp (bodyOf Tryd.f7) 1) (J2 (.junk :: .c (.ptr 0 0 0 0) :: .junk :: .c (.ptr 1 0 0 0) :: .junk :: .c (.int .i64 ((i : Nat) : Int)) :: J8 (J4 (J2 (.junk :: .c (.int .i64 ((cseDo p t).1.2.2.2.1.length : Int)) :: .c (.int .i64 ((i : Nat) : Int)) :: J2 (.c (.int .i64 ((i : Nat) : Int)) :: .c (.int .i64 (((k : Nat) : Int) + 1)) :: J32 (J32 (J4 (J2 ([])))))))))) [.cells 29 (Ty.enc tTrace t), .cells 29 (Ty.enc tTrace (cseDo p t).1), .cells 46 [.int .i64 ((cseDo p t).1.2.2.2.1.getD i tIns.dflt).1, .int .i64 ((cseDo p t).1.2.2.2.1.getD i tIns.dflt).2.1, .int .i64 ((cseDo p t).1.2.2.2.1.getD i tIns.dflt).2.2.1, .int .i64 ((cseDo p t).1.2.2.2.1.getD i tIns.dflt).2.2.2.1, .int .i64 ((cseDo p t).1.2.2.2.1.getD i tIns.dflt).2.2.2.2.1, .int .i64 ((cseDo p t).1.2.2.2.1.getD i tIns.dflt).2.2.2.2.2.1, .int .i64 ((cseDo p t).1.2.2.2.1.getD i tIns.dflt).2.2.2.2.2.2.1, .int .i64 ((cseDo p t).1.2.2.2.1.getD i tIns.dflt).2.2.2.2.2.2.2], .cells 46 [.int .i64 ((cseDo p t).1.2.2.2.1.getD k tIns.dflt).1, .int .i64 ((cseDo p t).1.2.2.2.1.getD k tIns.dflt).2.1, .int .i64 ((cseDo p t).1.2.2.2.1.getD k tIns.dflt).2.2.1, .int .i64 ((cseDo p t).1.2.2.2.1.getD k tIns.dflt).2.2.2.1, .int .i64 ((cseDo p t).1.2.2.2.1.getD k tIns.dflt).2.2.2.2.1, .int .i64 ((cseDo p t).1.2.2.2.1.getD k tIns.dflt).2.2.2.2.2.1, .int .i64 ((cseDo p t).1.2.2.2.1.getD k tIns.dflt).2.2.2.2.2.2.1, .int .i64 ((cseDo p t).1.2.2.2.1.getD k tIns.dflt).2.2.2.2.2.2.2]]))
       (.need (inR .i64 (((k : Nat) : Int) + 1)) <|
        .stop (lp (bodyOf Tryd.f7) 1) (J2 (.junk :: .c (.ptr 0 0 0 0) :: .junk :: .c (.ptr 1 0 0 0) :: .junk :: .c (.int .i64 ((i : Nat) : Int)) :: J8 (J4 (J2 (.junk :: .c (.int .i64 ((cseDo p t).1.2.2.2.1.length : Int)) :: .c (.int .i64 ((i : Nat) : Int)) :: J2 (.c (.int .i64 ((i : Nat) : Int)) :: .c (.int .i64 (((k : Nat) : Int) + 1)) :: J32 (J32 (J4 (J2 ([])))))))))) [.cells 29 (Ty.enc tTrace t), .cells 29 (Ty.enc tTrace (cseDo p t).1), .cells 46 [.int .i64 ((cseDo p t).1.2.2.2.1.getD i tIns.dflt).1, .int .i64 ((cseDo p t).1.2.2.2.1.getD i tIns.dflt).2.1, .int .i64 ((cseDo p t).1.2.2.2.1.getD i tIns.dflt).2.2.1, .int .i64 ((cseDo p t).1.2.2.2.1.getD i tIns.dflt).2.2.2.1, .int .i64 ((cseDo p t).1.2.2.2.1.getD i tIns.dflt).2.2.2.2.1, .int .i64 ((cseDo p t).1.2.2.2.1.getD i tIns.dflt).2.2.2.2.2.1, .int .i64 ((cseDo p t).1.2.2.2.1.getD i tIns.dflt).2.2.2.2.2.2.1, .int .i64 ((cseDo p t).1.2.2.2.1.getD i tIns.dflt).2.2.2.2.2.2.2], .cells 46 [.int .i64 ((cseDo p t).1.2.2.2.1.getD k tIns.dflt).1, .int .i64 ((cseDo p t).1.2.2.2.1.getD k tIns.dflt).2.1, .int .i64 ((cseDo p t).1.2.2.2.1.getD k tIns.dflt).2.2.1, .int .i64 ((cseDo p t).1.2.2.2.1.getD k tIns.dflt).2.2.2.1, .int .i64 ((cseDo p t).1.2.2.2.1.getD k tIns.dflt).2.2.2.2.1, .int .i64 ((cseDo p t).1.2.2.2.1.getD k tIns.dflt).2.2.2.2.2.1, .int .i64 ((cseDo p t).1.2.2.2.1.getD k tIns.dflt).2.2.2.2.2.2.1, .int .i64 ((cseDo p t).1.2.2.2.1.getD k tIns.dflt).2.2.2.2.2.2.2]]))
      (.need (inR .i64 (((k : Nat) : Int) + 1)) <|
       .stop (lp (bodyOf Tryd.f7) 1) (J2 (.junk :: .c (.ptr 0 0 0 0) :: .junk :: .c (.ptr 1 0 0 0) :: .junk :: .c (.int .i64 ((i : Nat) : Int)) :: J8 (J4 (J2 (.junk :: .c (.int .i64 ((cseDo p t).1.2.2.2.1.length : Int)) :: .c (.int .i64 ((i : Nat) : Int)) :: J2 (.c (.int .i64 ((i : Nat) : Int)) :: .c (.int .i64 (((k : Nat) : Int) + 1)) :: J32 (J32 (J4 (J2 ([])))))))))) [.cells 29 (Ty.enc tTrace t), .cells 29 (Ty.enc tTrace (cseDo p t).1), .cells 46 [.int .i64 ((cseDo p t).1.2.2.2.1.getD i tIns.dflt).1, .int .i64 ((cseDo p t).1.2.2.2.1.getD i tIns.dflt).2.1, .int .i64 ((cseDo p t).1.2.2.2.1.getD i tIns.dflt).2.2.1, .int .i64 ((cseDo p t).1.2.2.2.1.getD i tIns.dflt).2.2.2.1, .int .i64 ((cseDo p t).1.2.2.2.1.getD i tIns.dflt).2.2.2.2.1, .int .i64 ((cseDo p t).1.2.2.2.1.getD i tIns.dflt).2.2.2.2.2.1, .int .i64 ((cseDo p t).1.2.2.2.1.getD i tIns.dflt).2.2.2.2.2.2.1, .int .i64 ((cseDo p t).1.2.2.2.1.getD i tIns.dflt).2.2.2.2.2.2.2], .cells 46 [.int .i64 ((cseDo p t).1.2.2.2.1.getD k tIns.dflt).1, .int .i64 ((cseDo p t).1.2.2.2.1.getD k tIns.dflt).2.1, .int .i64 ((cseDo p t).1.2.2.2.1.getD k tIns.dflt).2.2.1, .int .i64 ((cseDo p t).1.2.2.2.1.getD k tIns.dflt).2.2.2.1, .int .i64 ((cseDo p t).1.2.2.2.1.getD k tIns.dflt).2.2.2.2.1, .int .i64 ((cseDo p t).1.2.2.2.1.getD k tIns.dflt).2.2.2.2.2.1, .int .i64 ((cseDo p t).1.2.2.2.1.getD k tIns.dflt).2.2.2.2.2.2.1, .int .i64 ((cseDo p t).1.2.2.2.1.getD k tIns.dflt).2.2.2.2.2.2.2]]))))
   (.need (inR .i64 (((k : Nat) : Int) + 1)) <|
    .stop (lp (bodyOf Tryd.f7) 1) (J2 (.junk :: .c (.ptr 0 0 0 0) :: .junk :: .c (.ptr 1 0 0 0) :: .junk :: .c (.int .i64 ((i : Nat) : Int)) :: J8 (J4 (J2 (.junk :: .c (.int .i64 ((cseDo p t).1.2.2.2.1.length : Int)) :: .c (.int .i64 ((i : Nat) : Int)) :: J2 (.c (.int .i64 ((i : Nat) : Int)) :: .c (.int .i64 (((k : Nat) : Int) + 1)) :: J32 (J32 (J4 (J2 ([])))))))))) [.cells 29 (Ty.enc tTrace t), .cells 29 (Ty.enc tTrace (cseDo p t).1), .cells 46 [.int .i64 ((cseDo p t).1.2.2.2.1.getD i tIns.dflt).1, .int .i64 ((cseDo p t).1.2.2.2.1.getD i tIns.dflt).2.1, .int .i64 ((cseDo p t).1.2.2.2.1.getD i tIns.dflt).2.2.1, .int .i64 ((cseDo p t).1.2.2.2.1.getD i tIns.dflt).2.2.2.1, .int .i64 ((cseDo p t).1.2.2.2.1.getD i tIns.dflt).2.2.2.2.1, .int .i64 ((cseDo p t).1.2.2.2.1.getD i tIns.dflt).2.2.2.2.2.1, .int .i64 ((cseDo p t).1.2.2.2.1.getD i tIns.dflt).2.2.2.2.2.2.1, .int .i64 ((cseDo p t).1.2.2.2.1.getD i tIns.dflt).2.2.2.2.2.2.2], .cells 46 [.int .i64 ((cseDo p t).1.2.2.2.1.getD k tIns.dflt).1, .int .i64 ((cseDo p t).1.2.2.2.1.getD k tIns.dflt).2.1, .int .i64 ((cseDo p t).1.2.2.2.1.getD k tIns.dflt).2.2.1, .int .i64 ((cseDo p t).1.2.2.2.1.getD k tIns.dflt).2.2.2.1, .int .i64 ((cseDo p t).1.2.2.2.1.getD k tIns.dflt).2.2.2.2.1, .int .i64 ((cseDo p t).1.2.2.2.1.getD k tIns.dflt).2.2.2.2.2.1, .int .i64 ((cseDo p t).1.2.2.2.1.getD k tIns.dflt).2.2.2.2.2.2.1, .int .i64 ((cseDo p t).1.2.2.2.1.getD k tIns.dflt).2.2.2.2.2.2.2]]))
  (.need (inR .i64 (((i : Nat) : Int) + 1)) <|
   .stop (lp (bodyOf Tryd.f7) 0) (J2 (.junk :: .c (.ptr 0 0 0 0) :: .junk :: .c (.ptr 1 0 0 0) :: .junk :: .c (.int .i64 ((i : Nat) : Int)) :: J8 (J4 (J2 (.junk :: .c (.int .i64 ((cseDo p t).1.2.2.2.1.length : Int)) :: .c (.int .i64 (((i : Nat) : Int) + 1)) :: J2 (.c (.int .i64 ((i : Nat) : Int)) :: .c (.int .i64 ((k : Nat) : Int)) :: J32 (J32 (J4 (J2 ([])))))))))) [.cells 29 (Ty.enc tTrace t), .cells 29 (Ty.enc tTrace (cseDo p t).1)])
theorem cseNone_l1_R_ok (p : EProg) (t : ETrace) (i : Nat) (k : Nat) : aRound Tryd.prog oc63 Tryd.f7 cseNone_lv 3000 (lp (bodyOf Tryd.f7) 1) (J2 (.junk :: .c (.ptr 0 0 0 0) :: .junk :: .c (.ptr 1 0 0 0) :: .junk :: .c (.int .i64 ((i : Nat) : Int)) :: J8 (J4 (J2 (.junk :: .c (.int .i64 ((cseDo p t).1.2.2.2.1.length : Int)) :: .c (.int .i64 ((i : Nat) : Int)) :: J2 (.c (.int .i64 ((i : Nat) : Int)) :: .c (.int .i64 ((k : Nat) : Int)) :: J32 (J32 (J4 (J2 ([])))))))))) [.cells 29 (Ty.enc tTrace t), .cells 29 (Ty.enc tTrace (cseDo p t).1)] = cseNone_l1_R p t i k := by kernel_rfl
noncomputable def cseNone_l0_R (p : EProg) (t : ETrace) (i : Nat) : Tree :=
  .ite (decide (((i : Nat) : Int) < ((cseDo p t).1.2.2.2.1.length : Int)))
  (.stop (lp (bodyOf Tryd.f7) 1) (J2 (.junk :: .c (.ptr 0 0 0 0) :: .junk :: .c (.ptr 1 0 0 0) :: .junk :: .c (.int .i64 ((i : Nat) : Int)) :: J8 (J4 (J2 (.junk :: .c (.int .i64 ((cseDo p t).1.2.2.2.1.length : Int)) :: .c (.int .i64 ((i : Nat) : Int)) :: J2 (.c (.int .i64 ((i : Nat) : Int)) :: .c (.int .i64 0) :: J32 (J32 (J4 (J2 ([])))))))))) [.cells 29 (Ty.enc tTrace t), .cells 29 (Ty.enc tTrace (cseDo p t).1)])
  (.call 15 [] false (.c (.bool true)) <|
   .ite (true)
   (.ret (.c (.bool (decide (((cseDo p t).1.2.2.2.1.length : Int) ≤ (t.2.2.2.1.length : Int))))) [.cells 29 (Ty.enc tTrace t), .cells 29 (Ty.enc tTrace (cseDo p t).1)])
   (.ret (.c (.lit false)) [.cells 29 (Ty.enc tTrace t), .cells 29 (Ty.enc tTrace (cseDo p t).1)]))
theorem cseNone_l0_R_ok (p : EProg) (t : ETrace) (i : Nat) : aRound Tryd.prog oc63 Tryd.f7 cseNone_lv 3000 (lp (bodyOf Tryd.f7) 0) (J2 (.junk :: .c (.ptr 0 0 0 0) :: .junk :: .c (.ptr 1 0 0 0) :: J16 (.junk :: .c (.int .i64 ((cseDo p t).1.2.2.2.1.length : Int)) :: .c (.int .i64 ((i : Nat) : Int)) :: J32 (J32 (J8 (J2 ([]))))))) [.cells 29 (Ty.enc tTrace t), .cells 29 (Ty.enc tTrace (cseDo p t).1)] = cseNone_l0_R p t i := by kernel_rfl
theorem cseNone_l1 (p : EProg) (t : ETrace) (i : Nat) (k : Nat) (he : (cseDo p t).2 = 0) (hl : (cseDo p t).1.2.2.2.1.length ≤ 1000) (hi : i < (cseDo p t).1.2.2.2.1.length) (hk : k ≤ i) (hn : Run Tryd.prog 7 (retQ Tryd.prog (.c (.bool (true)))) (lp (bodyOf Tryd.f7) 0) (J2 (.junk :: .c (.ptr 0 0 0 0) :: .junk :: .c (.ptr 1 0 0 0) :: J16 (.junk :: .c (.int .i64 ((cseDo p t).1.2.2.2.1.length : Int)) :: .c (.int .i64 (((i + 1) : Nat) : Int)) :: J32 (J32 (J8 (J2 ([]))))))) [.cells 29 (Ty.enc tTrace t), .cells 29 (Ty.enc tTrace (cseDo p t).1)]) : Run Tryd.prog 7 (retQ Tryd.prog (.c (.bool (true)))) (lp (bodyOf Tryd.f7) 1) (J2 (.junk :: .c (.ptr 0 0 0 0) :: .junk :: .c (.ptr 1 0 0 0) :: .junk :: .c (.int .i64 ((i : Nat) : Int)) :: J8 (J4 (J2 (.junk :: .c (.int .i64 ((cseDo p t).1.2.2.2.1.length : Int)) :: .c (.int .i64 ((i : Nat) : Int)) :: J2 (.c (.int .i64 ((i : Nat) : Int)) :: .c (.int .i64 ((k : Nat) : Int)) :: J32 (J32 (J4 (J2 ([])))))))))) [.cells 29 (Ty.enc tTrace t), .cells 29 (Ty.enc tTrace (cseDo p t).1)] :=
  Run.roundA oc63 cseNone_lv 3000 Tryd.func7 mixed (cseNone_l1_R p t i k) (cseNone_l1_R_ok p t i k) (by
    unfold cseNone_l1_R
    refine g_iteD (fun h0 => ?_) (fun h0 => ?_)
    · refine g_need (by omega) ?_
      refine g_need (by omega) ?_
      refine g_need (by omega) ?_
      refine g_need (by omega) ?_
      refine g_iteD (fun h1 => ?_) (fun h1 => ?_)
      · refine g_iteD (fun h2 => ?_) (fun h2 => ?_)
        · refine g_ite (fun h3 => ?_) (fun h3 => ?_)
          · refine g_rq ?_
            exact g_rl ((show (false : Bool) = true from by exfalso; have q := cse_none he (show k < i by omega) (by omega) h1; first | exact q.2.1 (by assumption) | exact q.1 (by assumption) (Prod.ext (by simp_all) (by simp_all)) | exact q.2.2 (by assumption) (by assumption) (by simp_all))) rfl
          · refine g_iteD (fun h4 => ?_) (fun h4 => ?_)
            · refine g_rq ?_
              exact g_rl ((show (false : Bool) = true from by exfalso; have q := cse_none he (show k < i by omega) (by omega) h1; first | exact q.2.1 (by assumption) | exact q.1 (by assumption) (Prod.ext (by simp_all) (by simp_all)) | exact q.2.2 (by assumption) (by assumption) (by simp_all))) rfl
            · refine g_iteD (fun h5 => ?_) (fun h5 => ?_)
              · refine g_iteD (fun h6 => ?_) (fun h6 => ?_)
                · refine g_ite (fun h7 => ?_) (fun h7 => ?_)
                  · refine g_rq ?_
                    exact g_rl ((show (false : Bool) = true from by exfalso; have q := cse_none he (show k < i by omega) (by omega) h1; first | exact q.2.1 (by assumption) | exact q.1 (by assumption) (Prod.ext (by simp_all) (by simp_all)) | exact q.2.2 (by assumption) (by assumption) (by simp_all))) rfl
                  · refine g_need (by first | omega | (rw [i64_iff]; omega) | (rw [i64_iff]; constructor <;> omega)) ?_
                    refine g_stop (RunN.keep [0, 1] (F2 (false :: true :: false :: true :: false :: true :: F8 (F4 (F2 (false :: true :: true :: F2 (true :: true :: F32 (F32 (F4 (F2 ([])))))))))) n0 (by decide) rfl rfl ?_)
                    exact cseNone_l1 p t i (k + 1) he hl hi (by omega) hn
                · refine g_need (by first | omega | (rw [i64_iff]; omega) | (rw [i64_iff]; constructor <;> omega)) ?_
                  refine g_stop (RunN.keep [0, 1] (F2 (false :: true :: false :: true :: false :: true :: F8 (F4 (F2 (false :: true :: true :: F2 (true :: true :: F32 (F32 (F4 (F2 ([])))))))))) n0 (by decide) rfl rfl ?_)
                  exact cseNone_l1 p t i (k + 1) he hl hi (by omega) hn
              · refine g_need (by first | omega | (rw [i64_iff]; omega) | (rw [i64_iff]; constructor <;> omega)) ?_
                refine g_stop (RunN.keep [0, 1] (F2 (false :: true :: false :: true :: false :: true :: F8 (F4 (F2 (false :: true :: true :: F2 (true :: true :: F32 (F32 (F4 (F2 ([])))))))))) n0 (by decide) rfl rfl ?_)
                exact cseNone_l1 p t i (k + 1) he hl hi (by omega) hn
        · refine g_iteD (fun h3 => ?_) (fun h3 => ?_)
          · refine g_rq ?_
            exact g_rl ((show (false : Bool) = true from by exfalso; have q := cse_none he (show k < i by omega) (by omega) h1; first | exact q.2.1 (by assumption) | exact q.1 (by assumption) (Prod.ext (by simp_all) (by simp_all)) | exact q.2.2 (by assumption) (by assumption) (by simp_all))) rfl
          · refine g_iteD (fun h4 => ?_) (fun h4 => ?_)
            · refine g_iteD (fun h5 => ?_) (fun h5 => ?_)
              · refine g_ite (fun h6 => ?_) (fun h6 => ?_)
                · refine g_rq ?_
                  exact g_rl ((show (false : Bool) = true from by exfalso; have q := cse_none he (show k < i by omega) (by omega) h1; first | exact q.2.1 (by assumption) | exact q.1 (by assumption) (Prod.ext (by simp_all) (by simp_all)) | exact q.2.2 (by assumption) (by assumption) (by simp_all))) rfl
                · refine g_need (by first | omega | (rw [i64_iff]; omega) | (rw [i64_iff]; constructor <;> omega)) ?_
                  refine g_stop (RunN.keep [0, 1] (F2 (false :: true :: false :: true :: false :: true :: F8 (F4 (F2 (false :: true :: true :: F2 (true :: true :: F32 (F32 (F4 (F2 ([])))))))))) n0 (by decide) rfl rfl ?_)
                  exact cseNone_l1 p t i (k + 1) he hl hi (by omega) hn
              · refine g_need (by first | omega | (rw [i64_iff]; omega) | (rw [i64_iff]; constructor <;> omega)) ?_
                refine g_stop (RunN.keep [0, 1] (F2 (false :: true :: false :: true :: false :: true :: F8 (F4 (F2 (false :: true :: true :: F2 (true :: true :: F32 (F32 (F4 (F2 ([])))))))))) n0 (by decide) rfl rfl ?_)
                exact cseNone_l1 p t i (k + 1) he hl hi (by omega) hn
            · refine g_need (by first | omega | (rw [i64_iff]; omega) | (rw [i64_iff]; constructor <;> omega)) ?_
              refine g_stop (RunN.keep [0, 1] (F2 (false :: true :: false :: true :: false :: true :: F8 (F4 (F2 (false :: true :: true :: F2 (true :: true :: F32 (F32 (F4 (F2 ([])))))))))) n0 (by decide) rfl rfl ?_)
              exact cseNone_l1 p t i (k + 1) he hl hi (by omega) hn
      · refine g_need (by first | omega | (rw [i64_iff]; omega) | (rw [i64_iff]; constructor <;> omega)) ?_
        refine g_stop (RunN.keep [0, 1] (F2 (false :: true :: false :: true :: false :: true :: F8 (F4 (F2 (false :: true :: true :: F2 (true :: true :: F32 (F32 (F4 (F2 ([])))))))))) n0 (by decide) rfl rfl ?_)
        exact cseNone_l1 p t i (k + 1) he hl hi (by omega) hn
    · refine g_need (by first | omega | (rw [i64_iff]; omega) | (rw [i64_iff]; constructor <;> omega)) ?_
      refine g_stop (RunN.keep [0, 1] (F2 (false :: true :: false :: true :: F16 (false :: true :: true :: F32 (F32 (F8 (F2 ([]))))))) n0 (by decide) rfl rfl ?_)
      exact hn
    )
  termination_by i - k
  decreasing_by all_goals omega
theorem cseNone_l0 (p : EProg) (t : ETrace) (i : Nat) (he : (cseDo p t).2 = 0) (hl : (cseDo p t).1.2.2.2.1.length ≤ 1000) (hi : i ≤ (cseDo p t).1.2.2.2.1.length) : Run Tryd.prog 7 (retQ Tryd.prog (.c (.bool (true)))) (lp (bodyOf Tryd.f7) 0) (J2 (.junk :: .c (.ptr 0 0 0 0) :: .junk :: .c (.ptr 1 0 0 0) :: J16 (.junk :: .c (.int .i64 ((cseDo p t).1.2.2.2.1.length : Int)) :: .c (.int .i64 ((i : Nat) : Int)) :: J32 (J32 (J8 (J2 ([]))))))) [.cells 29 (Ty.enc tTrace t), .cells 29 (Ty.enc tTrace (cseDo p t).1)] :=
  Run.roundA oc63 cseNone_lv 3000 Tryd.func7 mixed (cseNone_l0_R p t i) (cseNone_l0_R_ok p t i) (by
    unfold cseNone_l0_R
    refine g_iteD (fun h0 => ?_) (fun h0 => ?_)
    · refine g_stop (RunN.keep [0, 1] (F2 (false :: true :: false :: true :: false :: true :: F8 (F4 (F2 (false :: true :: true :: F2 (true :: true :: F32 (F32 (F4 (F2 ([])))))))))) n0 (by decide) rfl rfl ?_)
      exact cseNone_l1 p t i 0 he hl (by omega) (by omega) (cseNone_l0 p t (i + 1) he hl (by omega))
    · refine g_call (irred_fun) (fun h => nomatch h) ?_
      refine g_ite (fun h1 => ?_) (fun h1 => ?_)
      · refine g_rq ?_
        exact g_rl ((show (decide (((cseDo p t).1.2.2.2.1.length : Int) ≤ (t.2.2.2.1.length : Int)) : Bool) = true from by first | exact decide_eq_true (by have := cse_shorter he; omega) | (exfalso; simp_all; done))) rfl
      · refine g_rq ?_
        exact g_rl ((show (false : Bool) = true from by first | exact decide_eq_true (by have := cse_shorter he; omega) | (exfalso; simp_all; done))) rfl
    )
  termination_by (cseDo p t).1.2.2.2.1.length - i
  decreasing_by all_goals omega
theorem cseNone_fun (p : EProg) (t : ETrace) : AFun Tryd.prog 7 [.agg (tProg.enc p), .agg (tTrace.enc t)] (.c (.bool (true))) :=
  AFun.of oc63 cseNone_lv 3000 Tryd.func7 mixed rfl (by decide) (Nat.le_of_ble_eq_true rfl) _ (cseNone_T_ok p t) fun hF => by
    unfold cseNone_T
    refine g_call (csedo_fun p t) (fun h => nomatch h) ?_
    refine g_iteND (fun h0 => ?_) (fun h0 => ?_)
    · refine g_call (irred_fun) (fun h => nomatch h) ?_
      refine g_rq ?_
      exact g_rl (leAV.refl _) rfl
    · refine g_stop (RunN.keep [1, 2] (F2 (false :: true :: false :: true :: F16 (false :: true :: true :: F32 (F32 (F8 (F2 ([]))))))) n0 (by decide) rfl rfl ?_)
      exact cseNone_l0 p t 0 h0 (by have := cse_small h0; omega) (by omega)

end Go.Proofs.YtefkifdhjabdiaaDoor
