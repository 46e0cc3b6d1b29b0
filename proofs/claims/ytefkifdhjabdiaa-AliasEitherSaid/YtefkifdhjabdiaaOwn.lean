/- A slice that the call itself made, element for element plain data: 'Own'; append. -/
import Derived.Test.YtefkifdhjabdiaaRd
import Derived.Maps.AppendAt
import Derived.Lib.Hide
import Derived.Deep.Draws
namespace Go.Proofs.Ytefkifdhjabdiaa
set_option linter.unusedVariables false
set_option linter.unusedSimpArgs false
open Go.RowKit

/-- v is a slice of the call's own (from block base on) that holds xs; what its elements lead to is ok, and is not v's own block. -/
structure Own {α : Type} (d : Rd α) (e : TypeId) (ok : Nat → Prop) (w : World) (base : Nat) (v : Value) (xs : List α) : Prop where
  ex : ∃ cells, w.ownsRow base e d.sz v xs.length cells ∧ ∀ i x, xs[i]? = some x → d.K (fun k => ok k ∧ some k ≠ v.ownBlock) w x ((cells.drop (i * d.sz)).take d.sz)

section
variable {α : Type} {d : Rd α} {e : TypeId} {ok : Nat → Prop} {w w1 : World} {base : Nat} {v : Value} {xs : List α}
theorem Own.nil (d : Rd α) (e : TypeId) (ok : Nat → Prop) (w : World) (base : Nat) : Own d e ok w base (.slice none 0 0) [] := ⟨[], World.ownsRow_nil _ _ _ _, fun i x h => by simp at h⟩
theorem own_moved {base : Nat} {size n : Nat} {cells : List Value} (h : w.ownsRow base e size v n cells) (hm : ∀ k, v.ownBlock = some k → w1.heap[k]? = w.heap[k]?) : w1.ownsRow base e size v n cells := by
  obtain ⟨h1, h2⟩ := h
  refine ⟨h1, ?_⟩
  rcases h2 with h2 | ⟨g, cap, cur, rfl, hg, hh, r⟩
  · exact .inl h2
  · exact .inr ⟨g, cap, cur, rfl, hg, (hm g (by simp [Value.ownBlock])).trans hh, r⟩
theorem own_lt {base : Nat} {size n : Nat} {cells : List Value} (h : w.ownsRow base e size v n cells) (k : Nat) (hk : v.ownBlock = some k) : base ≤ k ∧ k < w.heap.size := h.lt k hk
theorem Own.lt (h : Own d e ok w base v xs) (k : Nat) (hk : v.ownBlock = some k) : base ≤ k ∧ k < w.heap.size := by obtain ⟨c, h1, _⟩ := h.ex; exact h1.lt k hk
theorem Own.mono {ok' : Nat → Prop} (h : Own d e ok w base v xs) (hk : ∀ k, ok k → ok' k) : Own d e ok' w base v xs := by
  obtain ⟨c, h1, h2⟩ := h.ex
  exact ⟨c, h1, fun i x hi => d.mono (fun k hk' => ⟨hk k hk'.1, hk'.2⟩) (h2 i x hi)⟩
theorem Own.lower {base' : Nat} (h : Own d e ok w base v xs) (hb : base' ≤ base) : Own d e ok w base' v xs := by
  obtain ⟨c, ⟨h0, h1⟩, h2⟩ := h.ex
  refine ⟨c, ⟨h0, ?_⟩, h2⟩
  rcases h1 with h1 | ⟨g, cap, cur, hv, hg, r⟩
  · exact .inl h1
  · exact .inr ⟨g, cap, cur, hv, by omega, r⟩
theorem Own.raise {base' : Nat} (h : Own d e ok w base v xs) (hb : ∀ k, v.ownBlock = some k → base' ≤ k) : Own d e ok w base' v xs := by
  obtain ⟨c, ⟨h0, h1⟩, h2⟩ := h.ex
  refine ⟨c, ⟨h0, ?_⟩, h2⟩
  rcases h1 with h1 | ⟨g, cap, cur, hv, hg, r⟩
  · exact .inl h1
  · exact .inr ⟨g, cap, cur, hv, hb g (by rw [hv]; rfl), r⟩
/-- Nothing that it leads to, and not its own block, turns. -/
theorem Own.move (h : Own d e ok w base v xs) (hm : ∀ k, (ok k ∨ v.ownBlock = some k) → k < w.heap.size → w1.heap[k]? = w.heap[k]?) : Own d e ok w1 base v xs := by
  obtain ⟨c, h1, h2⟩ := h.ex
  exact ⟨c, own_moved h1 (fun k hk => hm k (.inr hk) (h1.lt k hk).2), fun i x hi => d.move (fun k hk hlt => hm k (.inl hk.1) hlt) (h2 i x hi)⟩
theorem Own.below (h : Own d e ok w base v xs) (hb : Below w.heap.size w w1) : Own d e ok w1 base v xs := h.move (fun k _ hk => hb.block k hk)
theorem Own.alloc (h : Own d e ok w base v xs) (o : Obj) : Own d e ok (w.alloc o) base v xs := h.move (fun k _ hk => Below.heap_alloc _ _ _ hk)
theorem Own.drew (h : Own d e ok w base v xs) : Own d e ok w.drew base v xs := h.move (fun _ _ _ => rfl)
theorem Own.drewN (h : Own d e ok w base v xs) (n : Nat) : Own d e ok (w.drewN n) base v xs := h.move (fun _ _ _ => rfl)
/-- Another row has been written. -/
theorem Own.grown (h : Own d e ok w base v xs) {row : Option Nat} (hg : w.grownBy w1 row) (hok : ∀ k, ok k → k < w.heap.size → some k ≠ row) (hv : v.ownBlock = none ∨ v.ownBlock ≠ row) : Own d e ok w1 base v xs :=
  h.move (fun k hk hlt => hg.block k hlt (by
    rcases hk with hk | hk
    · exact hok k hk hlt
    · rcases hv with hv | hv
      · rw [hv] at hk; cases hk
      · rw [← hk]; exact hv))
/-- It reads as xs. -/
theorem Own.reads (h : Own d e ok w base v xs) (hs : 0 < d.sz) : (Rd.slice d).K (fun k => ok k ∨ v.ownBlock = some k) w xs [v] := by
  obtain ⟨cells, ho, hx⟩ := h.ex
  obtain ⟨hl, h2⟩ := ho
  rcases h2 with ⟨rfl, hn⟩ | ⟨g, cap, cur, rfl, hb, hh, hc, hm, hsz, htk⟩
  · have : xs = [] := List.eq_nil_of_length_eq_zero hn
    subst this
    exact ⟨none, 0, rfl, Nat.le_refl _, by omega, fun _ => rfl, Rd.C.nil _ _ _ _⟩
  · refine ⟨some ⟨g, 0, none⟩, cap, rfl, hc, by simpa [maxLen] using hm, by simp, rfl, by simp only [maxLen] at hm; omega, fun hp => ⟨_, rfl, .inr rfl, (Array.getElem?_eq_some_iff.1 hh).1, fun i x hi => ⟨_, d.mono (fun k hk => .inl hk.1) (hx i x hi), fun j u hj => ?_⟩⟩⟩
    have hi' : i < xs.length := (List.getElem?_eq_some_iff.1 hi).1
    rw [List.getElem?_take] at hj
    split at hj
    · rw [List.getElem?_drop] at hj
      exact World.ownsRow.cells (w := w) (base := base) (e := e) (size := d.sz) (n := xs.length) (xs := cells) ⟨hl, .inr ⟨g, cap, cur, rfl, hb, hh, hc, hm, hsz, htk⟩⟩ rfl _ _ hj
    · cases hj
/-- The cells of a slice that is read, one behind the other. -/
theorem flat_cells {A : Addr} {n : Nat} (h : d.C ok w (some A) n xs) : ∃ news : List Value, news.length = n * d.sz ∧ (∀ j u, news[j]? = some u → w.cell? (A.add j) = some u) ∧ (∀ u ∈ news, u.oneCell' = true) ∧ ∀ i x, xs[i]? = some x → d.K ok w x ((news.drop (i * d.sz)).take d.sz) := by
  have key : ∀ m, m ≤ n → ∃ news : List Value, news.length = m * d.sz ∧ (∀ j u, news[j]? = some u → w.cell? (A.add j) = some u) ∧ (∀ u ∈ news, u.oneCell' = true) ∧ ∀ i x, i < m → xs[i]? = some x → d.K ok w x ((news.drop (i * d.sz)).take d.sz) := by
    intro m
    induction m with
    | zero => exact fun _ => ⟨[], by simp, fun j u hj => by simp at hj, fun u hu => by simp at hu, fun i x hi => by omega⟩
    | succ m ih =>
      intro hm
      obtain ⟨news, h1, h2, h3, h4⟩ := ih (by omega)
      have hlen := h.1
      obtain ⟨ad, cs, e1, _, _, hk, hc⟩ := h.at_ m (xs[m]'(by omega)) (List.getElem?_eq_getElem (by omega))
      injection e1 with e1
      subst e1
      have hcl := d.len hk
      refine ⟨news ++ cs, by rw [List.length_append, h1, hcl, Nat.succ_mul], fun j u hj => ?_, fun u hu => ?_, fun i x hi hx => ?_⟩
      · rcases Nat.lt_or_ge j news.length with hjl | hjl
        · rw [List.getElem?_append_left hjl] at hj; exact h2 j u hj
        · rw [List.getElem?_append_right hjl] at hj
          have := hc _ _ hj
          rwa [show m * d.sz + (j - news.length) = j by omega] at this
      · rw [List.mem_append] at hu
        rcases hu with hu | hu
        · exact h3 u hu
        · exact d.one hk u hu
      · rcases Nat.lt_or_ge i m with him | him
        · have hle : i * d.sz + d.sz ≤ news.length := by rw [h1, ← Nat.succ_mul]; exact Nat.mul_le_mul_right _ him
          rw [List.drop_append_of_le_length (by omega), List.take_append_of_le_length (by rw [List.length_drop]; omega)]
          exact h4 i x him hx
        · obtain rfl : i = m := by omega
          rw [List.getElem?_eq_getElem (by omega)] at hx
          injection hx with hx
          subst hx
          rw [← h1, List.drop_left, ← hcl, List.take_length]
          exact hk
  obtain ⟨news, h1, h2, h3, h4⟩ := key n (Nat.le_refl _)
  exact ⟨news, h1, h2, h3, fun i x hx => h4 i x (by have := (List.getElem?_eq_some_iff.1 hx).1; have := h.1; omega) hx⟩
end

section
variable {P : Program} {α : Type} {d : Rd α} {e t : TypeId} {ok okp : Nat → Prop} {w : World} {base : Nat} {v : Value} {xs ys : List α} {z : Value} {bytes : Nat}
/-- append(v, ys...): as an equation on the run, for the walk. -/
theorem Own.append (h : Own d e ok w base v xs) (ht : P.underlying t = some (.slice e)) (hinfo : (P.info? e).map (fun i => (i.zero, i.size, i.bytes)) = some (some z, d.sz, bytes)) (hz : z.cells.size = d.sz) (hs0 : 0 < d.sz) (hb0 : 0 < bytes)
    (A : Option Addr) (m c : Nat) (hA : A = none → m = 0 ∧ c = 0) (hC : d.C okp w A m ys) (hok : ∀ k, okp k → ok k ∧ some k ≠ v.ownBlock) (hl : (xs.length + m) * bytes ≤ 140737488355328) (hbase : base ≤ w.heap.size) (ty : TypeId) :
    ∃ v1 w1, (Builtin.append_ #[t, t] ty #[v, .slice A m c]).run P w = .ok v1 w1 ∧ Own d e ok w1 base v1 (xs ++ ys) ∧ w.grownBy w1 v.ownBlock ∧ (v1.ownBlock = v.ownBlock ∨ v1.ownBlock = some w.heap.size) := by
  obtain ⟨i0, hi, hzz⟩ := Option.map_eq_some_iff.1 hinfo
  simp only [Prod.mk.injEq] at hzz
  obtain ⟨hz0, hz1, hz2⟩ := hzz
  obtain ⟨cells, ho, hx⟩ := h.ex
  cases A with
  | none =>
    obtain ⟨rfl, rfl⟩ := hA rfl
    have hy : ys = [] := List.eq_nil_of_length_eq_zero hC.1
    subst hy
    exact ⟨v, w, run_append_owned_none w base t ty e i0 d.sz ht hi v _ cells ho, by simpa using h, ⟨rfl, rfl, rfl, Nat.le_refl _, fun _ _ _ => rfl⟩, .inl rfl⟩
  | some a =>
    have hlen : xs.length + m ≤ 140737488355328 := Nat.le_trans (Nat.le_mul_of_pos_right _ hb0) hl
    obtain ⟨news, n1, n2, n3, n4⟩ := flat_cells hC
    obtain ⟨v1, w1, hr, ho1, hg, _, hat⟩ := run_append_own_at (P := P) w base t ty e i0 z d.sz bytes ht hi hz0 hz1 hz2 hz hs0 v xs.length cells ho a m c news n1 n2 n3 (by simp only [maxLen]; omega) hl hbase
    refine ⟨v1, w1, hr, ⟨cells ++ news, by rw [List.length_append, hC.1]; exact ho1, fun i x hi => ?_⟩, hg, hat⟩
    have hne : ∀ k, some k ≠ v.ownBlock → k < w.heap.size → some k ≠ v1.ownBlock := by
      intro k hk hlt
      rcases hat with hat | hat
      · rw [hat]; exact hk
      · rw [hat]; intro he; injection he with he; omega
    have step : ∀ {x : α} {cs : List Value}, d.K (fun k => ok k ∧ some k ≠ v.ownBlock) w x cs → d.K (fun k => ok k ∧ some k ≠ v1.ownBlock) w1 x cs := fun hk =>
      d.mono (fun k hk => ⟨hk.1.1, hne k hk.1.2 hk.2⟩) (d.move (fun k hk hlt => hg.block k hlt hk.1.2) (d.bound hk))
    have hcl : cells.length = xs.length * d.sz := ho.1
    rcases Nat.lt_or_ge i xs.length with hi' | hi'
    · rw [List.getElem?_append_left hi'] at hi
      have hle : i * d.sz + d.sz ≤ cells.length := by rw [hcl, ← Nat.succ_mul]; exact Nat.mul_le_mul_right _ hi'
      rw [List.drop_append_of_le_length (by omega), List.take_append_of_le_length (by rw [List.length_drop]; omega)]
      exact step (hx i x hi)
    · rw [List.getElem?_append_right hi'] at hi
      have e1 : i * d.sz = cells.length + (i - xs.length) * d.sz := by rw [hcl, ← Nat.add_mul]; congr 1; omega
      rw [e1, ← List.drop_drop, List.drop_left]
      exact step (d.mono hok (n4 _ _ hi))
end
/-- At the operation: an append whose run is known. -/
theorem wpList_append_eq {P : Program} {ops : Array Oper} {rest : List Oper} {o : Oper} {a : Act} {Q : Exit → Act → World → Prop} {w w1 : World} {v1 : Value} (hgd : o.guard = none) (s x : Operand) (t : TypeId)
    (ho : o.op = .call { callee := .builtin .append, args := #[s, x], argTypes := #[t, t] }) (v y : Value) (hs : a.eval s = v) (hx : a.eval x = y) (hr : (Builtin.append_ #[t, t] o.type #[v, y]).run P w = .ok v1 w1)
    (h : wpList P ops Q rest (a.put o.dst v1) w1) : wpList P ops Q (o :: rest) a w := by
  refine wpList_plain hgd fun K hK => ?_
  unfold Oper.wp execOp
  simp only [ho, resolve, invoke, builtin, Sem.run_bind, Sem.run_pure, Result.andThen_ok, List.map_toArray, List.map_cons, List.map_nil, hs, hx, hr]
  exact hK _ _ h
end Go.Proofs.Ytefkifdhjabdiaa
