/- What the laws' texts lean on, part 2: lemmas and the contracts of functions. No condition. -/
import Derived.Test.YtkonkblfckhcbaaGreatDoorM0
import Derived.Laws.AppendOwn
import Derived.Laws.MakeOwn
import Derived.Laws.Small
import Derived.Orders
import Derived.RangeFuncRecord
import Derived.KernelRfl
namespace Go.Proofs.YtkonkblfckhcbaaGreatDoor
set_option linter.unusedVariables false
set_option linter.unusedSimpArgs false
open Go.RowKit

section
variable {P : Program} {S : List Item → List AV → List AB → Prop} {Q : AV → List AB → Prop} {oc : Orc} {o : Oper} {env : List AV} {H : List AB} {K : Kont}
theorem ok_box {t : TypeId} {x : Operand} (ho : o.op = .box t x) {a1 : A1} (hv : ev env x = .one a1) : Acts P o env H (.c (.ptr H.length 0 0 0)) (H ++ [boxOf P t a1.cells]) [] [H.length] := by
 unfold boxOf
 have plain : Acts P o env H (.c (.ptr H.length 0 0 0)) (H ++ [.cells t a1.cells]) [] [H.length] := .alloc fun σ a w hx => by
  have hax := hx x (by rw [ho]; simp [Op.operands])
  rw [hv] at hax
  refine ⟨(a.eval x).cells, .pointer (some ⟨w.heap.size, 0, none⟩), ?_, CA1.cells hax, fun σ' _ i1 i2 => ⟨i2, by rw [i1]⟩⟩
  simp [execOp, ho, Instr.box, newVar, newRow]
 split
 ·split
  ·split
   ·rename_i len e _ _ n _ hl
    refine .allocB (e := t) fun σ a w hx => ?_
    have hax := hx x (by rw [ho]; simp [Op.operands])
    rw [hv] at hax
    have hc := CA1.cells hax
    refine ⟨(a.eval x).cells, .pointer (some ⟨w.heap.size, 0, none⟩), ?_, fun σ' hx' => row_blk len ?_ (hc.ext hx') (heap_alloc_new _ _), fun σ' _ i1 i2 => ⟨i2, by rw [i1]⟩⟩
    ·simp [execOp, ho, Instr.box, newVar, newRow]
    ·rw [← hl, hc.1]; simp
   ·exact plain
  ·exact plain
 ·exact plain
theorem ok_alloc {t : TypeId} (ho : o.op = .alloc t) {cs : List CV} (hz : zeroCs P t = some cs) : Acts P o env H (.c (.ptr H.length 0 0 0)) (H ++ [boxOf P t cs]) [] [H.length] := by
 unfold boxOf
 have plain : Acts P o env H (.c (.ptr H.length 0 0 0)) (H ++ [.cells t cs]) [] [H.length] := .alloc fun σ a w hx => by
  obtain ⟨z, hz1, hz2⟩ := zeroCs_ok (w := w) (σ := σ) hz
  refine ⟨z.cells, .pointer (some ⟨w.heap.size, 0, none⟩), ?_, hz2, fun σ' _ i1 i2 => ⟨i2, by rw [i1]⟩⟩
  simp [execOp, ho, Instr.alloc, run_zeroValue_of hz1, newVar, newRow]
 split
 ·split
  ·split
   ·rename_i len e _ _ n _ hl
    refine .allocB (e := t) fun σ a w hx => ?_
    obtain ⟨z, hz1, hz2⟩ := zeroCs_ok (w := w) (σ := σ) hz
    refine ⟨z.cells, .pointer (some ⟨w.heap.size, 0, none⟩), ?_, fun σ' hx' => row_blk len ?_ (hz2.ext hx') (heap_alloc_new _ _), fun σ' _ i1 i2 => ⟨i2, by rw [i1]⟩⟩
    ·simp [execOp, ho, Instr.alloc, run_zeroValue_of hz1, newVar, newRow]
    ·rw [← hl, hz2.1]; simp
   ·exact plain
  ·exact plain
 ·exact plain
theorem ok_make {t : TypeId} {l c : Operand} (ho : o.op = .makeSlice t l c) (hG : Good P S Q (aMake P t (ev env l) (ev env c) H K)) : ∃ v H' rd wr, Good P S Q (K v H' rd wr) ∧ Acts P o env H v H' rd wr := by
 unfold aMake at hG
 split at hG
 ·rename_i e k ln k' cn hu hl0 hc0
  split at hG
  ·rename_i ie z u hie hz hty
   split at hG
   ·rename_i z0 hdec
    split at hG
    ·rename_i hsz
     obtain ⟨⟨h0, h1, h2⟩, hG⟩ := hG
     refine ⟨_, _, _, _, hG, .allocB (e := e) fun σ a w hx => ?_⟩
     obtain ⟨hl, _⟩ := int_of (hx l (by rw [ho]; simp [Op.operands])) hl0
     obtain ⟨hc, hcin⟩ := int_of (hx c (by rw [ho]; simp [Op.operands])) hc0
     obtain ⟨zv, hz1, hz2⟩ := zeroCs_ok (w := w) (σ := σ) hz
     obtain ⟨ie', hie', hzv⟩ := Option.bind_eq_some_iff.1 hz1
     rw [hie] at hie'
     injection hie' with hie'
     subst hie'
     obtain ⟨hsz, hzl⟩ := hsz
     have hzs : zv.cells.size = ie.size := by rw [← hzl]; simpa using hz2.1.symm
     have h3 : cn ≤ 9223372036854775807 := by omega
     have hrun := run_make (P := P) w t e ie zv hu hie hzv k k' ln cn h0 h1 (by omega) h3
     refine ⟨madeCells zv.cells (cn.toNat * ie.size), .slice (some ⟨w.heap.size, 0, none⟩) ln.toNat cn.toNat, ?_, fun σ' hx' => ?_, fun σ' hx' i1 i2 => ?_⟩
     ·simp only [execOp, ho, hl, hc]
      exact run_op_value hrun
     ·refine ⟨_, heap_alloc_new _ _, ?_, fun i y hi => ?_⟩
      ·rw [List.length_replicate, size_madeCells, hsz]
       exact Nat.mul_le_mul_right _ (by omega)
      ·rw [List.getElem?_replicate] at hi
       split at hi
       ·rename_i hil
        injection hi with hi
        subst hi
        obtain ⟨_, e2⟩ := decMany_ok (σ := σ') (w := w.alloc (.cells (madeCells zv.cells (cn.toNat * ie.size)) e)) u 1 z zv.cells.toList [z0] hdec (hz2.ext hx')
        have e3 := e2 0 z0 rfl
        have hle : i * u.sz + u.sz ≤ cn.toNat * ie.size := by
         rw [hsz, ← Nat.succ_mul]
         exact Nat.mul_le_mul_right _ (by omega)
        have e4 : ((madeCells zv.cells (cn.toNat * ie.size)).toList.drop (i * u.sz)).take u.sz = (zv.cells.toList.drop (0 * u.sz)).take u.sz := by
         apply List.ext_getElem?
         intro q
         simp only [List.getElem?_take, List.getElem?_drop]
         split
         ·rename_i hq
          have hlt : i * u.sz + q < cn.toNat * ie.size := by omega
          have hm : (i * u.sz + q) % ie.size = q := by rw [← hsz, Nat.mul_comm i, Nat.mul_add_mod]; exact Nat.mod_eq_of_lt hq
          simp only [madeCells, Array.toList_map, List.getElem?_map]
          rw [Array.getElem?_toList]
          simp [hlt, hzs, hm]
          rw [Array.getElem!_eq_getD, Array.getD_eq_getD_getElem?]
          have hqz : q < zv.cells.size := by omega
          simp [hqz]
         ·rfl
        rw [e4]; exact e3
       ·cases hi
     ·exact ⟨i2, u.sz_pos, cn.toNat, _, e, (0, 0), by rw [i1]; simp, by omega, by omega, by rw [i1]; exact heap_alloc_new _ _, by rw [size_madeCells, hsz]; simp⟩
    ·exact hG.elim
   ·exact hG.elim
  ·exact hG.elim
 ·exact hG.elim
theorem ok_minmax {c : Call} {x y : Operand} {k k' : IntKind} {m n r : Int} (hb : (c.callee = .builtin .min ∧ r = if n < m then n else m) ∨ (c.callee = .builtin .max ∧ r = if n > m then n else m)) (ho : o.op = .call c) (ha : c.args.toList = [x, y]) (hx0 : ev env x = .c (.int k m)) (hy0 : ev env y = .c (.int k' n))
  (hG : Good P S Q (.need (inR k n) (K (.c (.int k r)) H [] []))) : ∃ v H' rd wr, Good P S Q (K v H' rd wr) ∧ Acts P o env H v H' rd wr := by
 obtain ⟨hin, hG⟩ := hG
 refine ⟨_, _, _, _, hG, .pure fun σ G a w hx hg hr => ?_⟩
 obtain ⟨callee, args, argTypes⟩ := c
 simp only at hb ha
 obtain rfl : args = #[x, y] := by apply Array.toList_inj.1; simpa using ha
 have hops : ∀ z, z = x ∨ z = y → z ∈ o.op.operands := fun z hz => by rw [ho]; simp only [Op.operands, Call.operands]; rcases hz with rfl | rfl <;> simp
 obtain ⟨hxv, hxin⟩ := int_of (hx x (hops x (.inl rfl))) hx0
 obtain ⟨hyv, _⟩ := int_of (hx y (hops y (.inr rfl))) hy0
 rcases hb with ⟨rfl, rfl⟩ | ⟨rfl, rfl⟩
 ·refine ⟨_, ?_, rfl, ?_⟩
  ·have := run_min_int2 (P := P) w argTypes o.type k k' m n
   simp only [execOp, ho, resolve]
   simp [invoke, builtin, hxv, hyv, this]
  ·split
   ·exact hin
   ·exact hxin
 ·refine ⟨_, ?_, rfl, ?_⟩
  ·have := run_max_int2 (P := P) w argTypes o.type k k' m n
   simp only [execOp, ho, resolve]
   simp [invoke, builtin, hxv, hyv, this]
  ·split
   ·exact hin
   ·exact hxin
theorem sub_reads {α : Type} {d : Rd α} {R : Nat → Prop} {w : World} {xs : List α} {A : Option Addr} {n c : Nat} (h : (Rd.slice d).K R w xs [.slice A n c]) {l k : Nat} (hl : l ≤ k) (hk : k ≤ xs.length) : (Rd.slice d).K R w ((xs.take k).drop l) [sliced A l k c d.sz] := by
 obtain ⟨A', c', hv, h1, h2, h3, hC⟩ := h
 injection hv with hv
 injection hv with e1 e2 e3
 subst e1; subst e2; subst e3
 have hlen : ((xs.take k).drop l).length = k - l := by simp; omega
 refine ⟨if c = l then A else A.map (·.add (l * d.sz)), c - l, by rw [hlen]; rfl, by omega, by omega, ?_, rfl, by omega, fun hp => ?_⟩
 ·intro hA
  split at hA
  ·rename_i h; rw [h3 hA]; simp
  ·have : A = none := by simpa using hA
   rw [h3 this]; simp
 ·rw [hlen] at hp
  obtain ⟨ad, rfl, hok, hlt, hel⟩ := hC.2.2 (by omega)
  rw [if_neg (by omega)]
  refine ⟨_, rfl, by rw [Rd.block_add]; exact hok, by rw [Rd.block_add]; exact hlt, fun i x hi => ?_⟩
  rw [List.getElem?_drop, List.getElem?_take] at hi
  split at hi
  ·obtain ⟨cs, hk1, hc⟩ := hel (l + i) x hi
   refine ⟨cs, hk1, fun j u hj => ?_⟩
   rw [Deep.add_add]
   have := hc j u hj
   rwa [Nat.add_mul, Nat.add_assoc] at this
  ·cases hi
theorem optV_ok {lo : Option Operand} {l : Option Int} (h : optV env lo = some l) {σ : Sg} {w : World} {a : Act} (hx : ∀ x, lo = some x → CA σ w (ev env x) (a.eval x)) : (lo = none ∧ l = none) ∨ ∃ k n, l = some n ∧ lo.map a.eval = some (.int k n) ∧ inR k n := by
 unfold optV at h
 split at h
 ·injection h with h; exact .inl ⟨rfl, h.symm⟩
 ·rename_i x
  split at h
  ·rename_i k n hv
   injection h with h
   obtain ⟨e, hin⟩ := int_of (hx x rfl) hv
   exact .inr ⟨k, n, h.symm, by simp [e], hin⟩
  ·cases h
theorem elem_slice {t e : TypeId} (hu : P.underlying t = some (.slice e)) : P.elem t = e := by simp [Program.elem, hu]
theorem elem_array {t e : TypeId} {n : Nat} (hu : P.underlying t = some (.array n e)) : P.elem t = e ∧ P.arrayLen t = n := by simp [Program.elem, Program.arrayLen, hu]
theorem ok_slice {t : TypeId} {x : Operand} {lo hi : Option Operand} {l h : Option Int} (ho : o.op = .slice t x lo hi none) (hl : optV env lo = some l) (hh : optV env hi = some h) (hG : Good P S Q (aSlice P t (ev env x) l h H K)) : ∃ v H' rd wr, Good P S Q (K v H' rd wr) ∧ Acts P o env H v H' rd wr := by
 have ops : ∀ (σ : Sg) (a : Act) (w : World), (∀ z ∈ o.op.operands, CA σ w (ev env z) (a.eval z)) → CA σ w (ev env x) (a.eval x) ∧ ((lo = none ∧ l = none) ∨ ∃ k n, l = some n ∧ lo.map a.eval = some (.int k n) ∧ inR k n) ∧ ((hi = none ∧ h = none) ∨ ∃ k n, h = some n ∧ hi.map a.eval = some (.int k n) ∧ inR k n) := fun σ a w hx =>
  ⟨hx x (by rw [ho]; simp [Op.operands]), optV_ok hl fun z hz => hx z (by rw [ho]; simp [Op.operands, hz]), optV_ok hh fun z hz => hx z (by rw [ho]; simp [Op.operands, hz])⟩
 have fin : ∀ (a : Act) (w : World) (r : Value), (Instr.sliceAt t (a.eval x) (lo.map a.eval) (hi.map a.eval) none).run P w = .ok r w → (execOp a.eval o).run P w = .ok (.value r) w := fun a w r h => by
  simp only [execOp, ho, Option.map_none]
  exact run_op_value h
 have nolo : ∀ {a : Act}, ((lo = none ∧ (none : Option Int) = none) ∨ ∃ k n, (none : Option Int) = some n ∧ lo.map a.eval = some (.int k n) ∧ inR k n) → lo.map a.eval = none := fun h => by
  rcases h with ⟨h, _⟩ | ⟨_, _, h, _⟩
  ·rw [h]; rfl
  ·cases h
 have nohi : ∀ {a : Act}, ((hi = none ∧ (none : Option Int) = none) ∨ ∃ k n, (none : Option Int) = some n ∧ hi.map a.eval = some (.int k n) ∧ inR k n) → hi.map a.eval = none := fun h => by
  rcases h with ⟨h, _⟩ | ⟨_, _, h, _⟩
  ·rw [h]; rfl
  ·cases h
 have islo : ∀ {a : Act} {m : Int}, ((lo = none ∧ some m = none) ∨ ∃ k n, some m = some n ∧ lo.map a.eval = some (.int k n) ∧ inR k n) → ∃ k, lo.map a.eval = some (.int k m) ∧ inR k m := fun h => by
  rcases h with ⟨_, h⟩ | ⟨k, n, h, h2, h3⟩
  ·cases h
  ·injection h with h; subst h; exact ⟨k, h2, h3⟩
 have ishi : ∀ {a : Act} {m : Int}, ((hi = none ∧ some m = none) ∨ ∃ k n, some m = some n ∧ hi.map a.eval = some (.int k n) ∧ inR k n) → ∃ k, hi.map a.eval = some (.int k m) ∧ inR k m := fun h => by
  rcases h with ⟨_, h⟩ | ⟨k, n, h, h2, h3⟩
  ·cases h
  ·injection h with h; subst h; exact ⟨k, h2, h3⟩
 unfold aSlice at hG
 split at hG
 ·rename_i s hu hx0
  have sx : ∀ (p q : Nat), p ≤ q → q ≤ s.size → s.size ≤ 9223372036854775807 → (s.extract p q).size ≤ 9223372036854775807 := fun p q h1 h2 h3 => by simp; omega
  split at hG
  ·rename_i l h
   obtain ⟨⟨h0, h1, h2⟩, hG⟩ := hG
   refine ⟨_, _, _, _, hG, .pure fun σ G a w hx hg hr => ?_⟩
   obtain ⟨hax, hlo, hhi⟩ := ops σ a w hx
   rw [hx0] at hax
   obtain ⟨hax, hsz⟩ := hax
   obtain ⟨k, el, _⟩ := islo hlo
   obtain ⟨k', eh, _⟩ := ishi hhi
   have ee : (h.toNat : Int) = h := Int.toNat_of_nonneg (by omega)
   refine ⟨_, fin a w _ ?_, rfl, sx _ _ (by omega) (by omega) hsz⟩
   rw [hax, el, eh, run_sliceAt_string w t _ _ _ _ hu]
   simp [Instr.slice, run_underlying_of hu, Instr.sliceBounds, run_sliceBound, h0, h1, h2, ee, (by omega : 0 ≤ h)]
  ·rename_i l
   obtain ⟨⟨h0, h2⟩, hG⟩ := hG
   refine ⟨_, _, _, _, hG, .pure fun σ G a w hx hg hr => ?_⟩
   obtain ⟨hax, hlo, hhi⟩ := ops σ a w hx
   rw [hx0] at hax
   obtain ⟨hax, hsz⟩ := hax
   obtain ⟨k, el, _⟩ := islo hlo
   refine ⟨_, fin a w _ ?_, rfl, sx _ _ (by omega) (by omega) hsz⟩
   rw [hax, el, nohi hhi, run_sliceAt_string w t _ _ _ _ hu]
   exact run_slice_string_l w t s hu k l h0 h2
  ·rename_i h
   obtain ⟨⟨h0, h2⟩, hG⟩ := hG
   refine ⟨_, _, _, _, hG, .pure fun σ G a w hx hg hr => ?_⟩
   obtain ⟨hax, hlo, hhi⟩ := ops σ a w hx
   rw [hx0] at hax
   obtain ⟨hax, hsz⟩ := hax
   obtain ⟨k, eh, _⟩ := ishi hhi
   refine ⟨_, fin a w _ ?_, rfl, sx _ _ (by omega) (by omega) hsz⟩
   rw [hax, nolo hlo, eh, run_sliceAt_string w t _ _ _ _ hu]
   exact run_slice_string_h w t s hu k h h0 h2
  ·refine ⟨_, _, _, _, hG, .pure fun σ G a w hx hg hr => ?_⟩
   obtain ⟨hax, hlo, hhi⟩ := ops σ a w hx
   rw [hx0] at hax
   obtain ⟨hax, hsz⟩ := hax
   refine ⟨.string s, fin a w _ ?_, rfl, hsz⟩
   rw [hax, nolo hlo, nohi hhi, run_sliceAt_string w t _ _ _ _ hu, run_slice_string_all w t s hu]
   have : s.extract 0 s.size = s := by simp
   rw [this]
 ·rename_i e u xs hu hx0
  have hel := elem_slice hu
  have hu' : P.underlying t = some (.slice (P.elem t)) := by rw [hel]; exact hu
  split at hG
  ·rename_i hsz
   have hsz' : ∀ w, (sizeOf (P.elem t)).run P w = .ok u.sz w := fun w => by rw [hel]; exact run_sizeOf_of hsz
   have sub : ∀ {σ : Sg} {w : World} {v : Value}, CC σ w (.ro u xs) v → ∃ A c, v = .slice A xs.length c ∧ xs.length ≤ c ∧ ∀ (l k : Nat), l ≤ k → k ≤ xs.length → CC σ w (.ro u ((xs.take k).drop l)) (sliced A l k c u.sz) := fun {σ w v} h => by
    obtain ⟨A, c, hv, h1, h2⟩ := id h
    injection hv with hv
    subst hv
    refine ⟨A, c, rfl, h1, fun l k h3 h4 => ?_⟩
    have := sub_reads (d := u.rd) h h3 h4
    rwa [u.rd_sz] at this
   split at hG
   ·rename_i l h
    obtain ⟨⟨h0, h1, h2⟩, hG⟩ := hG
    refine ⟨_, _, _, _, hG, .pure fun σ G a w hx hg hr => ?_⟩
    obtain ⟨hax, hlo, hhi⟩ := ops σ a w hx
    rw [hx0] at hax
    obtain ⟨A, c, hv, hc, hs⟩ := sub hax
    obtain ⟨k, el, _⟩ := islo hlo
    obtain ⟨k', eh, _⟩ := ishi hhi
    refine ⟨_, fin a w _ ?_, hs l.toNat h.toNat (by omega) (by omega)⟩
    rw [hv, el, eh, run_sliceAt_slice w t _ _ _ _ hu', run_slice_lh w t A xs.length c hu' k k' l h h0 h1 (by omega), hsz']
    rfl
   ·rename_i l
    obtain ⟨⟨h0, h2⟩, hG⟩ := hG
    refine ⟨_, _, _, _, hG, .pure fun σ G a w hx hg hr => ?_⟩
    obtain ⟨hax, hlo, hhi⟩ := ops σ a w hx
    rw [hx0] at hax
    obtain ⟨A, c, hv, hc, hs⟩ := sub hax
    obtain ⟨k, el, _⟩ := islo hlo
    have := hs l.toNat xs.length (by omega) (Nat.le_refl _)
    rw [List.take_length] at this
    refine ⟨_, fin a w _ ?_, this⟩
    rw [hv, el, nohi hhi, run_sliceAt_slice w t _ _ _ _ hu', run_slice_l w t A xs.length c hu' k l h0 h2, hsz']
    rfl
   ·rename_i h
    obtain ⟨⟨h0, h2⟩, hG⟩ := hG
    refine ⟨_, _, _, _, hG, .pure fun σ G a w hx hg hr => ?_⟩
    obtain ⟨hax, hlo, hhi⟩ := ops σ a w hx
    rw [hx0] at hax
    obtain ⟨A, c, hv, hc, hs⟩ := sub hax
    obtain ⟨k, eh, _⟩ := ishi hhi
    have := hs 0 h.toNat (by omega) (by omega)
    rw [List.drop_zero] at this
    refine ⟨_, fin a w _ ?_, this⟩
    rw [hv, nolo hlo, eh, run_sliceAt_slice w t _ _ _ _ hu', run_slice_h w t A xs.length c hu' k h h0 (by omega), hsz']
    rfl
   ·refine ⟨_, _, _, _, hG, .pure fun σ G a w hx hg hr => ?_⟩
    obtain ⟨hax, hlo, hhi⟩ := ops σ a w hx
    rw [hx0] at hax
    obtain ⟨A, c, hv, hc, hs⟩ := sub hax
    have := hs 0 xs.length (by omega) (Nat.le_refl _)
    rw [List.drop_zero, List.take_length] at this
    refine ⟨_, fin a w _ ?_, this⟩
    rw [hv, nolo hlo, nohi hhi, run_sliceAt_slice w t _ _ _ _ hu', run_slice_all w t A xs.length c hu', hsz']
    rfl
  ·exact hG.elim
 ·rename_i e b s n hu hx0
  have hel := elem_slice hu
  have hu' : P.underlying t = some (.slice (P.elem t)) := by rw [hel]; exact hu
  split at hG
  ·rename_i hsz
   have hsz' : ∀ w, (sizeOf (P.elem t)).run P w = .ok s w := fun w => by rw [hel]; exact run_sizeOf_of hsz
   split at hG
   ·rename_i h
    obtain ⟨⟨h0, h2⟩, hG⟩ := hG
    refine ⟨_, _, _, _, hG, .pure fun σ G a w hx hg hr => ?_⟩
    obtain ⟨hax, hlo, hhi⟩ := ops σ a w hx
    rw [hx0] at hax
    obtain ⟨hD, hs, cap, c, e', fr, hv, h3, h4, h5, h6⟩ := hax
    obtain ⟨k, eh, _⟩ := ishi hhi
    refine ⟨_, fin a w _ ?_, hD, hs, cap, c, e', fr, rfl, by omega, h4, h5, Nat.le_of_eq (by simpa using h6)⟩
    rw [hv, nolo hlo, eh, run_sliceAt_slice w t _ _ _ _ hu', run_slice_h w t _ n cap hu' k h h0 (by omega), hsz']
    simp [sliced, Addr.add]
   ·refine ⟨_, _, _, _, hG, .pure fun σ G a w hx hg hr => ?_⟩
    obtain ⟨hax, hlo, hhi⟩ := ops σ a w hx
    rw [hx0] at hax
    obtain ⟨hD, hs, cap, c, e', fr, hv, h3, h4, h5, h6⟩ := id hax
    refine ⟨a.eval x, fin a w _ ?_, hax⟩
    rw [hv, nolo hlo, nohi hhi, run_sliceAt_slice w t _ _ _ _ hu', run_slice_all w t _ n cap hu', hsz']
    simp [sliced, Addr.add]
   ·exact hG.elim
  ·exact hG.elim
 ·rename_i e b s n hu hx0
  have hel := elem_slice hu
  have hu' : P.underlying t = some (.slice (P.elem t)) := by rw [hel]; exact hu
  split at hG
  ·rename_i hsz
   have hsz' : ∀ w, (sizeOf (P.elem t)).run P w = .ok s w := fun w => by rw [hel]; exact run_sizeOf_of hsz
   split at hG
   ·rename_i h
    obtain ⟨⟨h0, h2⟩, hG⟩ := hG
    refine ⟨_, _, _, _, hG, .pure fun σ G a w hx hg hr => ?_⟩
    obtain ⟨hax, hlo, hhi⟩ := ops σ a w hx
    rw [hx0] at hax
    obtain ⟨hD, hs, cap, c, e', fr, hv, h3, h4, h5, h6⟩ := hax
    obtain ⟨k, eh, _⟩ := ishi hhi
    refine ⟨_, fin a w _ ?_, hD, hs, cap, c, e', fr, rfl, by omega, h4, h5, h6⟩
    rw [hv, nolo hlo, eh, run_sliceAt_slice w t _ _ _ _ hu', run_slice_h w t _ n cap hu' k h h0 (by omega), hsz']
    simp [sliced, Addr.add]
   ·exact hG.elim
  ·exact hG.elim
 ·rename_i len e b s hu hx0
  obtain ⟨hel, hal⟩ := elem_array hu
  have hu' : P.underlying t = some (.array (P.arrayLen t) (P.elem t)) := by rw [hel, hal]; exact hu
  split at hG
  ·rename_i n id u xs hsz hb
   have hsz' : ∀ w, (sizeOf (P.elem t)).run P w = .ok n w := fun w => by rw [hel]; exact run_sizeOf_of hsz
   split at hG
   ·rename_i hnu
    obtain ⟨rfl, hlen⟩ := hnu
    have core : ∀ (σ : Sg) (G : Nat → AB) (w : World) (v : Value) (q : Nat), CC σ w (.ptr b s 0 0) v → (∀ k, k ∈ [b] → G k = gv H k) → RelG σ G w → len ≤ xs.length → q ≤ len → CC σ w (.pre b u.sz q) (.slice (some ⟨σ.ι b, 0, none⟩) q len) := fun σ G w v q hv hg hr hl hq => by
     have hgb : G b = .vec id u xs := by rw [hg b (by simp)]; exact gv_of hb
     have hbk := hr.blk b (by rw [hgb]; simp)
     rw [hgb] at hbk
     obtain ⟨c, hc, hcl, _⟩ := hbk
     exact ⟨hv.1, u.sz_pos, len, c, id, (0, 0), rfl, hq, by omega, hc, Nat.le_trans (Nat.mul_le_mul_right _ hl) hcl⟩
    split at hG
    ·rename_i h
     obtain ⟨⟨h0, h2, h3⟩, hG⟩ := hG
     refine ⟨_, _, _, _, hG, .pure fun σ G a w hx hg hr => ?_⟩
     obtain ⟨hax, hlo, hhi⟩ := ops σ a w hx
     rw [hx0] at hax
     obtain ⟨k, eh, _⟩ := ishi hhi
     refine ⟨_, fin a w _ ?_, core σ G w _ h.toNat hax hg hr h3 (by omega)⟩
     have hv : a.eval x = .pointer (some ⟨σ.ι b, 0, none⟩) := by have := hax.2; simpa using this
     rw [hv, nolo hlo, eh, run_sliceAt_array_h w t _ hu' k h h0 (by rw [hal]; exact h2), hsz', hal]
     simp [slicedAt, Addr.add]
    ·obtain ⟨h3, hG⟩ := hG
     refine ⟨_, _, _, _, hG, .pure fun σ G a w hx hg hr => ?_⟩
     obtain ⟨hax, hlo, hhi⟩ := ops σ a w hx
     rw [hx0] at hax
     refine ⟨_, fin a w _ ?_, core σ G w _ len hax hg hr h3 (Nat.le_refl _)⟩
     have hv : a.eval x = .pointer (some ⟨σ.ι b, 0, none⟩) := by have := hax.2; simpa using this
     rw [hv, nolo hlo, nohi hhi, run_sliceAt_array_all w t _ hu', hsz', hal]
     simp [slicedAt, Addr.add]
    ·exact hG.elim
   ·exact hG.elim
  ·rename_i n id cs hsz hb
   have hsz' : ∀ w, (sizeOf (P.elem t)).run P w = .ok n w := fun w => by rw [hel]; exact run_sizeOf_of hsz
   split at hG
   ·rename_i hnu
    obtain ⟨hn0, hcl, hlen⟩ := hnu
    have core : ∀ (σ : Sg) (G : Nat → AB) (w : World) (v : Value) (q : Nat), CC σ w (.ptr b s 0 0) v → (∀ k, k ∈ [b] → G k = gv H k) → RelG σ G w → q ≤ len → CC σ w (.pre b n q) (.slice (some ⟨σ.ι b, 0, none⟩) q len) := fun σ G w v q hv hg hr hq => by
     have hgb : G b = .cells id cs := by rw [hg b (by simp)]; exact gv_of hb
     have hbk := hr.blk b (by rw [hgb]; simp)
     rw [hgb] at hbk
     obtain ⟨c, hc, hcs⟩ := hbk
     exact ⟨hv.1, hn0, len, c, id, (0, 0), rfl, hq, by omega, hc, by have := hcs.1; simp at this; omega⟩
    split at hG
    ·rename_i h
     obtain ⟨⟨h0, h2⟩, hG⟩ := hG
     refine ⟨_, _, _, _, hG, .pure fun σ G a w hx hg hr => ?_⟩
     obtain ⟨hax, hlo, hhi⟩ := ops σ a w hx
     rw [hx0] at hax
     obtain ⟨k, eh, _⟩ := ishi hhi
     refine ⟨_, fin a w _ ?_, core σ G w _ h.toNat hax hg hr (by omega)⟩
     have hv : a.eval x = .pointer (some ⟨σ.ι b, 0, none⟩) := by have := hax.2; simpa using this
     rw [hv, nolo hlo, eh, run_sliceAt_array_h w t _ hu' k h h0 (by rw [hal]; exact h2), hsz', hal]
     simp [slicedAt, Addr.add]
    ·refine ⟨_, _, _, _, hG, .pure fun σ G a w hx hg hr => ?_⟩
     obtain ⟨hax, hlo, hhi⟩ := ops σ a w hx
     rw [hx0] at hax
     refine ⟨_, fin a w _ ?_, core σ G w _ len hax hg hr (Nat.le_refl _)⟩
     have hv : a.eval x = .pointer (some ⟨σ.ι b, 0, none⟩) := by have := hax.2; simpa using this
     rw [hv, nolo hlo, nohi hhi, run_sliceAt_array_all w t _ hu', hsz', hal]
     simp [slicedAt, Addr.add]
    ·exact hG.elim
   ·exact hG.elim
  ·exact hG.elim
 ·exact hG.elim
end
end Go.Proofs.YtkonkblfckhcbaaGreatDoor
namespace Go.Proofs.YtkonkblfckhcbaaGreatDoor
set_option linter.unusedVariables false
set_option linter.unusedSimpArgs false
open Go.RowKit

theorem tdt {α : Type} (l : List α) (n p s : Nat) (h : p + s ≤ n) : ((l.take n).drop p).take s = (l.drop p).take s := by
 apply List.ext_getElem?
 intro k
 simp only [List.getElem?_take, List.getElem?_drop]
 split
 ·rw [if_pos (by omega)]
 ·rfl
theorem app_elems {α : Type} {t : Ty} {Kk : t.El → List Value → Prop} {xs ys : List t.El} {olds news rest : List Value} (h1 : olds.length = xs.length * t.sz) (h2 : news.length = ys.length * t.sz) (hx : ∀ (i : Nat) (x : t.El), xs[i]? = some x → Kk x ((olds.drop (i * t.sz)).take t.sz)) (hy : ∀ (i : Nat) (x : t.El), ys[i]? = some x → Kk x ((news.drop (i * t.sz)).take t.sz)) :
  ∀ (i : Nat) (x : t.El), (xs ++ ys)[i]? = some x → Kk x (((olds ++ news ++ rest).drop (i * t.sz)).take t.sz) := by
 intro i x hi
 rcases Nat.lt_or_ge i xs.length with h | h
 ·rw [List.getElem?_append_left h] at hi
  have hle : i * t.sz + t.sz ≤ olds.length := by rw [h1, ← Nat.succ_mul]; exact Nat.mul_le_mul_right _ h
  have e : ((olds ++ news ++ rest).drop (i * t.sz)).take t.sz = (olds.drop (i * t.sz)).take t.sz := by
   rw [List.append_assoc, List.drop_append_of_le_length (by omega), List.take_append_of_le_length (by rw [List.length_drop]; omega)]
  rw [e]; exact hx i x hi
 ·rw [List.getElem?_append_right h] at hi
  have hil := (List.getElem?_eq_some_iff.1 hi).1
  have e1 : i * t.sz = olds.length + (i - xs.length) * t.sz := by rw [h1, ← Nat.add_mul]; congr 1; omega
  have hle : (i - xs.length) * t.sz + t.sz ≤ news.length := by rw [h2, ← Nat.succ_mul]; exact Nat.mul_le_mul_right _ hil
  have e : ((olds ++ news ++ rest).drop (i * t.sz)).take t.sz = (news.drop ((i - xs.length) * t.sz)).take t.sz := by
   rw [e1, List.append_assoc, ← List.drop_drop, List.drop_left, List.drop_append_of_le_length (by omega), List.take_append_of_le_length (by rw [List.length_drop]; omega)]
  rw [e]; exact hy _ x hi
/-- A row's cells are one cell each. -/
theorem row_one {R : Nat → Prop} {w : World} {t : Ty} {ys : List t.El} {l : List Value} {m : Nat} (hm : m ≤ ys.length) (hl : m * t.sz ≤ l.length) (h : ∀ (i : Nat) (y : t.El), ys[i]? = some y → t.rd.K R w y ((l.drop (i * t.sz)).take t.sz)) : ∀ u ∈ l.take (m * t.sz), u.oneCell' = true := by
 intro u hu
 obtain ⟨j, hj, rfl⟩ := List.mem_iff_getElem.1 hu
 rw [List.length_take] at hj
 have hs := t.sz_pos
 have hi : j / t.sz < m := by rw [Nat.div_lt_iff_lt_mul hs]; omega
 have hk := h (j / t.sz) _ (List.getElem?_eq_getElem (by omega))
 refine t.rd.one hk _ ?_
 rw [List.getElem_take]
 have hq : j % t.sz < t.sz := Nat.mod_lt _ hs
 have e : j / t.sz * t.sz + j % t.sz = j := by rw [Nat.mul_comm]; exact Nat.div_add_mod j t.sz
 apply List.mem_iff_getElem?.2
 refine ⟨j % t.sz, ?_⟩
 rw [List.getElem?_take, if_pos hq, List.getElem?_drop, e]
 exact List.getElem?_eq_getElem (by omega)
section
variable {P : Program} {S : List Item → List AV → List AB → Prop} {Q : AV → List AB → Prop} {oc : Orc} {o : Oper} {env : List AV} {H : List AB} {K : Kont} {t e : TypeId} {ie : TypeInfo} {z : Value}
/-- What is appended. -/
def Src (σ : Sg) (w : World) (t : Ty) (ys : List t.El) (v : Value) : Prop := ∃ (A : Option Addr) (m c : Nat) (news : List Value), v = .slice A m c ∧ m = ys.length ∧ (A = none → m = 0) ∧ news.length = m * t.sz ∧ (∀ (ad : Addr), A = some ad → ∀ (j : Nat) (u : Value), news[j]? = some u → w.cell? (ad.add j) = some u) ∧ (∀ u ∈ news, u.oneCell' = true) ∧ ∀ (i : Nat) (y : t.El), ys[i]? = some y → t.rd.K σ.R w y ((news.drop (i * t.sz)).take t.sz)
theorem src_ok {x : AV} {K : (t : Ty) → List t.El → List Nat → Tree} {N : Tree} (hG : Good P S Q (srcOf H x K N)) : (x = .c .nilsl ∧ Good P S Q N) ∨ ∃ t ys rd, Good P S Q (K t ys rd) ∧ ∀ (σ : Sg) (G : Nat → AB) (w : World) (v : Value), RelG σ G w → (∀ b ∈ rd, G b = gv H b) → CA σ w x v → Src σ w t ys v := by
 unfold srcOf at hG
 split at hG
 ·exact .inl ⟨rfl, hG⟩
 ·rename_i t ys
  refine .inr ⟨t, ys, _, hG, fun σ G w v hr hg h => ?_⟩
  obtain ⟨A, c, hv, h1, h2, h3, hC⟩ := h
  injection hv with hv
  cases A with
  | none =>
   have hy : ys.length = 0 := by
    rcases Nat.eq_zero_or_pos ys.length with h | h
    ·exact h
    ·obtain ⟨ad, hA, _⟩ := hC.2.2 h; cases hA
   have hy' : ys = [] := List.eq_nil_of_length_eq_zero hy
   subst hy'
   exact ⟨none, _, c, [], hv, rfl, fun _ => rfl, by simp, (fun ad h => by cases h), (fun u h => by cases h), (fun i y h => by simp at h)⟩
  | some ad =>
   obtain ⟨news, n1, n2, n3, n4⟩ := flat_cells hC
   rw [t.rd_sz] at n1 n4
   exact ⟨some ad, _, c, news, hv, rfl, (fun h => by cases h), n1, (fun ad' h => by injection h with h; subst h; exact n2), n3, n4⟩
 ·rename_i b s i n
  split at hG
  ·rename_i e t ys hb
   split at hG
   ·rename_i hs
    obtain ⟨⟨rfl, rfl⟩, hG⟩ := hG
    subst hs
    refine .inr ⟨t, ys, _, hG, fun σ G w v hr hg h => ?_⟩
    obtain ⟨hD, hs, cap, c, e', fr, hv, h1, h2, h3, h4⟩ := h
    have hgb : G b = .vec e t ys := by rw [hg b (by simp)]; exact gv_of hb
    have hbk := hr.blk b (by rw [hgb]; simp)
    rw [hgb] at hbk
    obtain ⟨c2, hc2, hl, hel⟩ := hbk
    rw [h3] at hc2
    injection hc2 with hc2
    injection hc2 with e1 e2 e3
    subst e1; subst e2; subst e3
    have hlen : ys.length * t.sz ≤ c.toList.length := by simpa using hl
    refine ⟨_, _, cap, c.toList.take (ys.length * t.sz), hv, rfl, (fun h => by cases h), by rw [List.length_take]; omega, (fun ad h j u hj => ?_), row_one (Nat.le_refl _) hlen hel, fun i y hi => ?_⟩
    ·injection h with h
     subst h
     rw [List.getElem?_take] at hj
     split at hj
     ·rw [add_eq rfl, cell_row h3]; simpa using hj
     ·cases hj
    ·have hil := (List.getElem?_eq_some_iff.1 hi).1
     rw [tdt _ _ _ _ (by rw [← Nat.succ_mul]; exact Nat.mul_le_mul_right _ hil)]
     exact hel i y hi
   ·exact hG.elim
  ·exact hG.elim
 ·rename_i b s n
  split at hG
  ·rename_i e t ys hb
   split at hG
   ·rename_i hs
    obtain ⟨hn, hG⟩ := hG
    subst hs
    refine .inr ⟨t, ys.take n, _, hG, fun σ G w v hr hg h => ?_⟩
    obtain ⟨hD, hs, cap, c, e', fr, hv, h1, h2, h3, h4⟩ := h
    have hgb : G b = .vec e t ys := by rw [hg b (by simp)]; exact gv_of hb
    have hbk := hr.blk b (by rw [hgb]; simp)
    rw [hgb] at hbk
    obtain ⟨c2, hc2, hl, hel⟩ := hbk
    rw [h3] at hc2
    injection hc2 with hc2
    injection hc2 with e1 e2 e3
    subst e1; subst e2; subst e3
    have hlen : n * t.sz ≤ c.toList.length := by
     have := Nat.mul_le_mul_right t.sz hn
     simp; omega
    refine ⟨_, n, cap, c.toList.take (n * t.sz), hv, by rw [List.length_take]; omega, (fun h => by cases h), by rw [List.length_take]; omega, (fun ad h j u hj => ?_), row_one hn hlen hel, fun i y hi => ?_⟩
    ·injection h with h
     subst h
     rw [List.getElem?_take] at hj
     split at hj
     ·rw [add_eq rfl, cell_row h3]; simpa using hj
     ·cases hj
    ·rw [List.getElem?_take] at hi
     split at hi
     ·rename_i hin
      rw [tdt _ _ _ _ (by rw [← Nat.succ_mul]; exact Nat.mul_le_mul_right _ hin)]
      exact hel i y hi
     ·cases hi
   ·exact hG.elim
  ·exact hG.elim
 ·rename_i b s n
  split at hG
  ·rename_i e t ys hb
   split at hG
   ·rename_i hs
    obtain ⟨rfl, hG⟩ := hG
    subst hs
    refine .inr ⟨t, ys, _, hG, fun σ G w v hr hg h => ?_⟩
    by_cases hx : ys = []
    ·subst hx
     obtain ⟨A, hv⟩ := (CC.osl_zero (σ := σ) (w := w) (b := b) (s := t.sz)).1 h
     exact ⟨A, 0, 0, [], hv, rfl, fun _ => rfl, by simp, (fun ad h j u hj => by simp at hj), (fun u h => by cases h), (fun i y h => by simp at h)⟩
    replace h := (CC.osl_pos (by intro h0; exact hx (List.eq_nil_of_length_eq_zero h0))).1 h
    obtain ⟨hD, hs, cap, c, e', fr, hv, h1, h2, h3, h4⟩ := h
    have hgb : G b = .vec e t ys := by rw [hg b (by simp)]; exact gv_ovec hb hx
    have hbk := hr.blk b (by rw [hgb]; simp)
    rw [hgb] at hbk
    obtain ⟨c2, hc2, hl, hel⟩ := hbk
    rw [h3] at hc2
    injection hc2 with hc2
    injection hc2 with e1 e2 e3
    subst e1; subst e2; subst e3
    have hlen : ys.length * t.sz ≤ c.toList.length := by simpa using hl
    refine ⟨_, _, cap, c.toList.take (ys.length * t.sz), hv, rfl, (fun h => by cases h), by rw [List.length_take]; omega, (fun ad h j u hj => ?_), row_one (Nat.le_refl _) hlen hel, fun i y hi => ?_⟩
    ·injection h with h
     subst h
     rw [List.getElem?_take] at hj
     split at hj
     ·rw [add_eq (by simp), cell_row h3]; simpa using hj
     ·cases hj
    ·have hil := (List.getElem?_eq_some_iff.1 hi).1
     rw [tdt _ _ _ _ (by rw [← Nat.succ_mul]; exact Nat.mul_le_mul_right _ hil)]
     exact hel i y hi
   ·exact hG.elim
  ·exact hG.elim
 ·exact hG.elim
theorem onEmp_ok {α : Type} {x : AV} {ys : List α} {A B : Tree} (hG : Good P S Q (onEmp x ys A B)) : (ys = [] ∧ Good P S Q A) ∨ (ys ≠ [] ∧ Good P S Q B) := by
 unfold onEmp at hG
 split at hG
 ·obtain ⟨h, hG⟩ := hG
  exact .inr ⟨by simpa using h, hG⟩
 ·cases h : ys.isEmpty with
  | true => exact .inl ⟨by simpa using h, hG.1 h⟩
  | false => exact .inr ⟨by simpa using h, hG.2 h⟩
/-- A row's name, given up for another: the same row, or a new one. -/
theorem Stp.renamed {σ : Sg} {G G' : Nat → AB} {w w' : World} {b m q : Nat} (hr : RelG σ G w) (hb : G b ≠ .dead) (hm : ¬ σ.D m) (hq : q = σ.ι b ∨ q = w.heap.size) (hqc : IsC w' q) (hch : Chg (fun i => i = σ.ι b) w w') (hdead : G' b = .dead)
  (hx : Ext σ w ⟨fun k => if k = m then q else σ.ι k, fun k => σ.D k ∨ k = m, σ.R, fun k => if k = m then σ.F b else σ.F k⟩ w')
  (hB : ∀ σ', Ext σ w σ' w' → Blk σ' w' q (σ.F b) (G' m)) : ∃ σ', Stp σ G w [b, m] G' σ' w' ∧ σ'.ι m = q ∧ σ'.D m := by
 have only : ∀ k, k ∈ [b, m] → G' k ≠ .dead → k = m := fun k hk hd => by
  simp at hk
  rcases hk with rfl | rfl
  ·exact absurd hdead hd
  ·rfl
 have fm : ∀ k, Sg.fp ⟨fun k => if k = m then q else σ.ι k, fun k => σ.D k ∨ k = m, σ.R, fun k => if k = m then σ.F b else σ.F k⟩ m k → q = k ∨ σ.F b k := fun k hk => by
  rcases hk with hk | hk
  ·left; simpa using hk
  ·right; simpa using hk
 refine ⟨_, ⟨?_, hx, ?_, ?_, ?_, ?_, fun k h => .inl h, ?_, fun k hk => Nat.lt_of_lt_of_le (hr.rlt k hk) hch.size, ?_, ?_⟩, by simp, by simp⟩
 ·intro k
  simp only [List.mem_cons, List.not_mem_nil, or_false]
  constructor
  ·rintro (h | h)
   ·exact .inl h
   ·exact .inr (.inr h)
  ·rintro (h | rfl | h)
   ·exact .inl h
   ·exact .inl (hr.dom k hb)
   ·exact .inr h
 ·exact hch.mono (fun k hk => ⟨b, by simp, hb, .inl hk.symm⟩)
 ·intro k hk hd
  obtain rfl := only k hk hd
  have := hB _ hx
  simpa using this
 ·intro k hk hd y hy
  obtain rfl := only k hk hd
  rcases fm y hy with hy | hy
  ·rcases hq with e | e
   ·exact .inl ⟨b, by simp, hb, .inl (e.symm.trans hy)⟩
   ·exact .inr (by omega)
  ·exact .inl ⟨b, by simp, hb, .inr hy⟩
 ·intro k hk k' hk' hd hd' _ _ _
  rw [only k hk hd, only k' hk' hd']
 ·intro k hk hd y hy hR
  obtain rfl := only k hk hd
  rcases fm y hy with hy | hy
  ·rcases hq with e | e
   ·exact hr.outF b hb y (.inl (e.symm.trans hy)) hR
   ·have := hr.rlt y hR; omega
  ·exact hr.outF b hb y (.inr hy) hR
 ·intro k hk hd y hy
  obtain rfl := only k hk hd
  exact (hr.flt b hb y (by simpa using hy)).ext hx
 ·intro k hD hk
  simp only [List.mem_cons, List.not_mem_nil, or_false, not_or] at hk
  exact if_neg hk.2
/-- A row's name, given up for another: the same row. -/
theorem Stp.moved {σ : Sg} {G G' : Nat → AB} {w w' : World} {b m : Nat} {c c' : Array Value} {e : TypeId} (hr : RelG σ G w) (hb : G b ≠ .dead) (hm : ¬ σ.D m) (hc : w.heap[σ.ι b]? = some (.cells c e (0, 0))) (hch : Chg (fun i => i = σ.ι b) w w') (hc' : w'.heap[σ.ι b]? = some (.cells c' e (0, 0))) (hs : c'.size = c.size) (hdead : G' b = .dead)
  (hB : ∀ σ', Ext σ w σ' w' → Blk σ' w' (σ.ι b) (σ.F b) (G' m)) : ∃ σ', Stp σ G w [b, m] G' σ' w' ∧ σ'.ι m = σ.ι b ∧ σ'.D m := by
 refine Stp.renamed hr hb hm (.inl rfl) ⟨_, _, _, hc'⟩ hch hdead ⟨fun k hk => ⟨.inl hk, by simp only; rw [if_neg (by rintro rfl; exact hm hk)]⟩, fun _ h => h, fun k hk hlt => hch.block k hlt (by rintro rfl; exact hr.out b hb hk), fun k d e' fr hk => ?_⟩ hB
 by_cases hkb : k = σ.ι b
 ·subst hkb
  rw [hc] at hk
  injection hk with hk
  injection hk with h1 h2 h3
  subst h1; subst h2; subst h3
  exact ⟨c', (0, 0), hc', hs⟩
 ·exact ⟨d, fr, by rw [hch.block k (Array.getElem?_eq_some_iff.1 hk).1 hkb]; exact hk, rfl⟩
/-- A row's name, given up for another: a new row. -/
theorem Stp.grown {σ : Sg} {G G' : Nat → AB} {w w' : World} {b m : Nat} {e : TypeId} {vs : Array Value} (hr : RelG σ G w) (hb : G b ≠ .dead) (hbm : b ≠ m) (hm : ¬ σ.D m) (hw : w'.heap = w.heap.push (.cells vs e)) (hos : w'.os = w.os ∧ w'.tape = w.tape ∧ w'.output = w.output) (hdead : G' b = .dead)
  (hB : ∀ σ', Ext σ w σ' w' → Blk σ' w' w.heap.size (σ.F b) (G' m)) : ∃ σ', Stp σ G w [b, m] G' σ' w' ∧ σ'.ι m = w.heap.size ∧ σ'.D m := by
 have hold : ∀ k, k < w.heap.size → w'.heap[k]? = w.heap[k]? := fun k hk => by rw [hw, Array.getElem?_push, if_neg (by omega)]
 have hsz : w'.heap.size = w.heap.size + 1 := by rw [hw]; simp
 exact Stp.renamed hr hb hm (.inr rfl) ⟨vs, e, (0, 0), by rw [hw]; simp⟩ ⟨hos.1, hos.2.1, hos.2.2, by omega, fun k hk _ => hold k hk⟩ hdead
  ⟨fun k hk => ⟨.inl hk, by simp only; rw [if_neg (by rintro rfl; exact hm hk)]⟩, fun _ h => h, fun k hk hlt => hold k hlt, fun k c e' fr hk => ⟨c, fr, by rw [hold k (Array.getElem?_eq_some_iff.1 hk).1]; exact hk, rfl⟩⟩ hB
theorem run_append_none (hu : P.underlying t = some (.slice e)) (hie : P.info? e = some ie) (w : World) (ot : TypeId) (base : Option Addr) (n cap : Nat) (A : Option Addr) (c : Nat) (hn : n ≤ cap) : (Builtin.append_ #[t, t] ot #[.slice base n cap, .slice A 0 c]).run P w = .ok (.slice base n cap) w := by
 cases base <;> cases A <;> simp [Builtin.append_, run_underlying_of hu, sizeOf, typeInfo, hie, Builtin.lenOf, Builtin.firstCells, loadCells, loadCellsFrom, storeCells, hn]
/-- To a row of the call's own. -/
theorem app_sl {x y : Operand} {u' : Ty} {xs ys : List u'.El} {b : Nat} {ab : AB} (fin : ∀ (a : Act) (w w' : World) (r : Value), (Builtin.append_ #[t, t] o.type #[a.eval x, a.eval y]).run P w = .ok r w' → (execOp a.eval o).run P w = .ok (.value r) w')
  (hu : P.underlying t = some (.slice e)) (hie : P.info? e = some ie) (hz : ie.zero = some z) (hzs : z.cells.size = ie.size) (hb0 : 0 < ie.bytes) (hus : u'.sz = ie.size) (hbl : b < H.length) (hab : nrm ab = .vec e u' (xs ++ ys)) (hbytes : (xs.length + ys.length) * ie.bytes ≤ 140737488355328)
  {σ : Sg} {G : Nat → AB} {a : Act} {w : World} (hgb : G b = .vec e u' xs) (hr : RelG σ G w) (hmD : ¬ σ.D H.length) (hax : CC σ w (.sl b u'.sz 0 xs.length) (a.eval x)) (hsrc : Src σ w u' ys (a.eval y)) :
  OpTo P o a w fun v w' => ∃ σ', Stp σ G w [b, H.length] (gv (H.set b .dead ++ [ab])) σ' w' ∧ CA σ' w' (.c (.sl H.length u'.sz 0 (xs.length + ys.length))) v := by
 have nothing := run_append_none (P := P) hu hie
 have gN : gv (H.set b .dead ++ [ab]) H.length = .vec e u' (xs ++ ys) := by
  have := gv_push_new (H := H.set b .dead) ab
  rw [List.length_set] at this
  exact this.trans hab
 have gB : gv (H.set b .dead ++ [ab]) b = .dead := by
  rw [gv_push_off (H := H.set b .dead) _ (by simp; omega)]
  exact gv_set hbl
 obtain ⟨hDb, hs, cap, c, e2, fr, hv, h3, h4, h5, h6⟩ := hax
 have hnd : G b ≠ .dead := by rw [hgb]; simp
 have hbk := hr.blk b hnd
 rw [hgb] at hbk
 obtain ⟨c2, hc2, hl, hel⟩ := hbk
 rw [h5] at hc2
 injection hc2 with hc2
 injection hc2 with q1 q2 q3
 subst q1; subst q3; replace h5 := q2 ▸ h5
 obtain ⟨A, m, c', news, hv', hm, hA, n1, n2, n3, n4⟩ := hsrc
 have hsz' : cap * u'.sz = c.size := by simpa using h6
 have holen : (c.toList.take (xs.length * u'.sz)).length = xs.length * u'.sz := by rw [List.length_take]; simp; omega
 have helO : ∀ (i : Nat) (x : u'.El), xs[i]? = some x → u'.rd.K σ.R w x (((c.toList.take (xs.length * u'.sz)).drop (i * u'.sz)).take u'.sz) := fun i x hi => by
  rw [tdt _ _ _ _ (by rw [← Nat.succ_mul]; exact Nat.mul_le_mul_right _ (List.getElem?_eq_some_iff.1 hi).1)]
  exact hel i x hi
 have hvx : a.eval x = .slice (some ⟨σ.ι b, 0, none⟩) xs.length cap := by simpa using hv
 have h63 : xs.length + m ≤ 140737488355328 := by
  rw [hm]
  exact Nat.le_trans (Nat.le_mul_of_pos_right _ hb0) hbytes
 cases A with
 | none =>
  have hm0 : m = 0 := hA rfl
  subst hm0
  have hy0 : ys = [] := List.eq_nil_of_length_eq_zero hm.symm
  subst hy0
  obtain ⟨σ', hst, i1, i2⟩ := Stp.moved (G' := gv (H.set b .dead ++ [ab])) hr hnd hmD h5 (Chg.refl _ w) h5 rfl gB (fun σ' hx' => by
   rw [gN, List.append_nil]
   exact ⟨c, h5, hl, fun i x hi => rd_ext hx' (hel i x hi)⟩)
  refine .value (fin a w w (.slice (some ⟨σ.ι b, 0, none⟩) xs.length cap) (by rw [hvx, hv']; exact nothing w _ _ _ cap none c' h3)) ⟨σ', hst, i2, hs, cap, c, e, (0, 0), by rw [i1]; simp, by simpa using h3, h4, by rw [i1]; exact h5, by simpa using hsz'⟩
 | some ad =>
  by_cases hroom : xs.length + m ≤ cap
  ·have hfit : xs.length * ie.size + news.length ≤ c.size := by
    rw [n1, ← hus, ← hsz', ← Nat.add_mul]; exact Nat.mul_le_mul_right _ hroom
   have hrun := run_append_room (P := P) w t o.type e ie hu hie (σ.ι b) xs.length cap c h5 ad m c' news (by rw [n1, hus]) (n2 ad rfl) n3 hroom hfit
   rw [← hus] at hrun hfit
   have hch : Chg (fun i => i = σ.ι b) w (w.setRow (σ.ι b) (c.toList.take (xs.length * u'.sz) ++ news ++ c.toList.drop (xs.length * u'.sz + news.length)).toArray) := ⟨rfl, rfl, rfl, by simp, fun k _ hk => setRow_other w _ k _ hk⟩
   have hcc := setRow_heap w (σ.ι b) c (c.toList.take (xs.length * u'.sz) ++ news ++ c.toList.drop (xs.length * u'.sz + news.length)).toArray e _ h5
   have hssz : (c.toList.take (xs.length * u'.sz) ++ news ++ c.toList.drop (xs.length * u'.sz + news.length)).toArray.size = c.size := by
    simp only [List.size_toArray, List.length_append, holen, List.length_drop, Array.length_toList]; omega
   obtain ⟨σ', hst, i1, i2⟩ := Stp.moved (G' := gv (H.set b .dead ++ [ab])) hr hnd hmD h5 hch hcc hssz gB (fun σ' hx' => by
    rw [gN]
    refine ⟨_, hcc, ?_, fun i x hi => ?_⟩
    ·rw [hssz, List.length_append, ← hm, ← hsz']
     exact Nat.mul_le_mul_right _ hroom
    ·exact app_elems (α := Nat) (t := u') (Kk := fun x l => u'.rd.K σ'.R (w.setRow (σ.ι b) (c.toList.take (xs.length * u'.sz) ++ news ++ c.toList.drop (xs.length * u'.sz + news.length)).toArray) x l) holen (by rw [n1, hm]) (fun i x h => rd_ext hx' (helO i x h)) (fun i x h => rd_ext hx' (n4 i x h)) i x hi)
   refine .value (fin a w _ _ (by rw [hvx, hv']; exact hrun)) ⟨σ', hst, i2, hs, cap, _, e, (0, 0), by rw [i1, hm]; simp, by rw [← hm]; exact hroom, h4, by rw [i1]; exact hcc, by rw [hssz]; simpa using hsz'⟩
  ·have hrun := run_append_grow (P := P) w t o.type e ie z hu hie hz ⟨σ.ι b, 0, none⟩ xs.length cap (c.toList.take (xs.length * u'.sz)) (by rw [holen, hus]) (fun j v hj => by
    rw [List.getElem?_take] at hj
    split at hj
    ·rw [add_eq rfl, cell_row h5]; simpa using hj
    ·cases hj) ad m c' news (by rw [n1, hus]) (n2 ad rfl) (by omega) (by omega) (growslice_fits (by omega) (by rw [hm]; exact hbytes))
   have hge := grownCap_ge w (xs.length + m) cap e
   have hle := grownCap_le_maxLen w (xs.length + m) cap e (by simp only [maxLen]; omega)
   have hbm : b ≠ H.length := by omega
   obtain ⟨σ', hst, i1, i2⟩ := Stp.grown (b := b) (m := H.length) (e := e) (vs := (c.toList.take (xs.length * u'.sz)).toArray ++ news.toArray ++ Builtin.zeroCells z.cells (grownCap w (xs.length + m) cap e - (xs.length + m))) (w' := w.drew.alloc (.cells ((c.toList.take (xs.length * u'.sz)).toArray ++ news.toArray ++ Builtin.zeroCells z.cells (grownCap w (xs.length + m) cap e - (xs.length + m))) e)) (G' := gv (H.set b .dead ++ [ab])) hr hnd hbm hmD rfl ⟨rfl, rfl, rfl⟩ gB (fun σ' hx' => by
    rw [gN]
    refine ⟨_, heap_alloc_new w.drew _, ?_, fun i x hi => ?_⟩
    ·simp only [Array.size_append, List.size_toArray, holen, n1, List.length_append, hm, Nat.add_mul]
     omega
    ·have := app_elems (α := Nat) (t := u') (Kk := fun x l => u'.rd.K σ'.R (w.drew.alloc (.cells ((c.toList.take (xs.length * u'.sz)).toArray ++ news.toArray ++ Builtin.zeroCells z.cells (grownCap w (xs.length + m) cap e - (xs.length + m))) e)) x l) (rest := (Builtin.zeroCells z.cells (grownCap w (xs.length + m) cap e - (xs.length + m))).toList) holen (by rw [n1, hm]) (fun i x h => rd_ext hx' (helO i x h)) (fun i x h => rd_ext hx' (n4 i x h)) i x hi
     simpa using this)
   refine .value (fin a w _ _ (by rw [hvx, hv']; exact hrun)) ⟨σ', hst, i2, hs, grownCap w (xs.length + m) cap e, _, e, (0, 0), by rw [i1, hm]; simp, by rw [← hm]; exact hge, by simpa only [maxLen] using hle, by rw [i1]; exact heap_alloc_new w.drew _, ?_⟩
   simp only [Array.size_append, List.size_toArray, size_zeroCells, hzs, n1, holen, ← hus, Nat.zero_add, ← Nat.add_mul]
   congr 1
   omega
theorem ok_append {c : Call} {t : TypeId} {x y : Operand} (ho : o.op = .call c) (hc : c.callee = .builtin .append) (ht : c.argTypes.toList = [t, t]) (ha : c.args.toList = [x, y]) (hG : Good P S Q (aAppend P t (ev env x) (ev env y) H K)) : ∃ v H' rd wr, Good P S Q (K v H' rd wr) ∧ Acts P o env H v H' rd wr := by
 obtain ⟨callee, args, argTypes⟩ := c
 simp only at hc ha ht
 subst hc
 obtain rfl : args = #[x, y] := by apply Array.toList_inj.1; simpa using ha
 obtain rfl : argTypes = #[t, t] := by apply Array.toList_inj.1; simpa using ht
 have mx : x ∈ o.op.operands := by rw [ho]; simp [Op.operands, Call.operands]
 have my : y ∈ o.op.operands := by rw [ho]; simp [Op.operands, Call.operands]
 have fin : ∀ (a : Act) (w w' : World) (r : Value), (Builtin.append_ #[t, t] o.type #[a.eval x, a.eval y]).run P w = .ok r w' → (execOp a.eval o).run P w = .ok (.value r) w' := fun a w w' r h => by
  simp only [execOp, ho, resolve]
  simp [invoke, builtin, h]
 unfold aAppend at hG
 split at hG
 case h_2 => exact hG.elim
 rename_i e hu
 split at hG
 case h_2 => exact hG.elim
 rename_i ie hie
 split at hG
 case h_2 => exact hG.elim
 rename_i z hz
 split at hG
 case isFalse => exact hG.elim
 rename_i hzz
 obtain ⟨hzs, hs0, hb0⟩ := hzz
 have nothing : ∀ (w : World) (base : Option Addr) (n cap : Nat) (A : Option Addr) (c : Nat), n ≤ cap → (Builtin.append_ #[t, t] o.type #[.slice base n cap, .slice A 0 c]).run P w = .ok (.slice base n cap) w := fun w base n cap A c hn => by
  cases base <;> cases A <;> simp [Builtin.append_, run_underlying_of hu, sizeOf, typeInfo, hie, Builtin.lenOf, Builtin.firstCells, loadCells, loadCellsFrom, storeCells, hn]
 split at hG
 ·rename_i hx0
  rcases src_ok hG with ⟨hy0, hG⟩ | ⟨u, ys, rd, hG, hsrc⟩
  ·refine ⟨_, _, _, _, hG, .pure fun σ G a w hx hg hr => ?_⟩
   have hax := hx x mx
   have hay := hx y my
   rw [hx0] at hax
   rw [hy0] at hay
   have hax : a.eval x = .slice none 0 0 := hax
   have hay : a.eval y = .slice none 0 0 := hay
   exact ⟨_, fin a w w (.slice none 0 0) (by rw [hax, hay]; exact nothing w none 0 0 none 0 (Nat.le_refl _)), rfl⟩
  ·split at hG
   case isFalse => exact hG.elim
   rename_i hus
   obtain ⟨hbytes, hG⟩ := hG
   rcases onEmp_ok hG with ⟨hye, hG⟩ | ⟨hne, hG⟩
   ·refine ⟨_, _, _, _, hG, .pure fun σ G a w hx hg hr => ?_⟩
    have hax := hx x mx
    rw [hx0] at hax
    have hax : a.eval x = .slice none 0 0 := hax
    obtain ⟨A, m, c, news, hv, hm, _⟩ := hsrc σ G w _ hr hg (hx y my)
    rw [hye] at hm
    have hm : m = 0 := hm
    subst hm
    exact ⟨_, fin a w w (.slice none 0 0) (by rw [hax, hv]; exact nothing w none 0 0 A c (Nat.le_refl _)), rfl⟩
   ·refine ⟨_, _, _, _, hG, by simp, fun b hb => by simp at hb; simp [hb], fun b hb => gv_push_off _ hb, fun σ G a w hx hg hD hr => ?_⟩
    have hax := hx x mx
    rw [hx0] at hax
    have hax : a.eval x = .slice none 0 0 := hax
    obtain ⟨A, m, c, news, hv, hm, hA, n1, n2, n3, n4⟩ := hsrc σ G w _ hr (fun b hb => hg b (.inl hb)) (hx y my)
    have hpos : 0 < m := by
     rw [hm]
     exact List.length_pos_iff.2 hne
    cases A with
    | none => exact absurd (hA rfl) (by omega)
    | some ad =>
     have hm63 : m ≤ 140737488355328 := by
      rw [hm]
      exact Nat.le_trans (Nat.le_mul_of_pos_right _ hb0) hbytes
     have hrun := run_append_nil (P := P) w t o.type e ie z hu hie hz ad m c news (by rw [n1, hus]) (n2 ad rfl) hpos (by omega) (by rw [hm]; omega)
     obtain ⟨σ', hs, i1, i2⟩ := Stp.allocW (w' := w.drew.alloc (.cells (news.toArray ++ Builtin.zeroCells z.cells (grownCap w m 0 e - m)) e)) (G' := gv (H ++ [.vec e u ys])) hr (hD H.length (by simp) (Nat.le_refl _)) rfl ⟨rfl, rfl, rfl⟩ (fun σ' hx' => by
      rw [gv_push_new]
      show Blk σ' _ _ _ (.vec e u ys)
      refine ⟨_, heap_alloc_new w.drew _, ?_, fun i x hi => ?_⟩
      ·rw [← hm, ← n1]; simp
      ·have := app_elems (α := Nat) (t := u) (Kk := fun x l => u.rd.K σ'.R (w.drew.alloc (.cells (news.toArray ++ Builtin.zeroCells z.cells (grownCap w m 0 e - m)) e)) x l) (xs := []) (ys := ys) (olds := []) (news := news) (rest := (Builtin.zeroCells z.cells (grownCap w m 0 e - m)).toList) (by simp) (by rw [n1, hm]) (fun i x h => by simp at h) (fun i x h => rd_ext hx' (n4 i x h)) i x (by simpa using hi)
       simpa using this)
     have hge := grownCap_ge w m 0 e
     have hle := grownCap_le_maxLen w m 0 e (by simp only [maxLen]; omega)
     refine .value (fin a w _ _ (by rw [hax, hv]; exact hrun)) ⟨σ', hs, i2, u.sz_pos, grownCap w m 0 e, _, e, (0, 0), by rw [i1, hm]; simp, by rw [← hm]; exact hge, by simpa only [maxLen] using hle, by rw [i1]; exact heap_alloc_new w.drew _, ?_⟩
     simp only [Array.size_append, List.size_toArray, size_zeroCells, hzs, n1, ← hus, Nat.zero_add, ← Nat.add_mul]
     congr 1
     omega
 ·rename_i b sz i n hx0
  split at hG
  case h_2 => exact hG.elim
  rename_i e' u xs hb
  split at hG
  case isFalse => exact hG.elim
  rename_i hsz
  obtain ⟨rfl, hus, he⟩ := hsz
  obtain rfl := he.symm
  obtain ⟨⟨rfl, rfl⟩, hG⟩ := hG
  rcases src_ok hG with ⟨hy0, hG⟩ | ⟨u', ys, rd, hG, hsrc⟩
  ·refine ⟨_, _, _, _, hG, .pure fun σ G a w hx hg hr => ?_⟩
   have hax := hx x mx
   have hay := hx y my
   rw [hx0] at hax
   rw [hy0] at hay
   have hay : a.eval y = .slice none 0 0 := hay
   obtain ⟨hD, hs, cap, c, e', fr, hv, h3, h4, h5, h6⟩ := id hax
   exact ⟨_, fin a w w (a.eval x) (by rw [hv, hay]; exact nothing w _ _ cap none 0 h3), hax⟩
  ·split at hG
   case isFalse => exact hG.elim
   rename_i huu
   subst huu
   obtain ⟨hbytes, hG⟩ := hG
   have hbl : b < H.length := lt_of_get hb
   have gN : gv (H.set b .dead ++ [AB.vec e u' (xs ++ ys)]) H.length = .vec e u' (xs ++ ys) := by
    have := gv_push_new (H := H.set b .dead) (AB.vec e u' (xs ++ ys))
    rw [List.length_set] at this
    exact this
   have gB : gv (H.set b .dead ++ [AB.vec e u' (xs ++ ys)]) b = .dead := by
    rw [gv_push_off (H := H.set b .dead) _ (by simp; omega)]
    exact gv_set hbl
   refine ⟨_, _, _, _, hG, by simp, fun k hk => by simp at hk ⊢; omega, fun k hk => ?_, fun σ G a w hx hg hD hr => ?_⟩
   ·simp at hk
    rw [gv_push_off (H := H.set b .dead) _ (by simp; exact hk.2)]
    exact gv_set_off (by simp; exact hk.1)
   ·have hax := hx x mx
    rw [hx0] at hax
    exact app_sl fin hu hie hz hzs hb0 hus hbl rfl hbytes (by rw [hg b (.inr (by simp))]; exact gv_of hb) hr (hD H.length (by simp) (Nat.le_refl _)) hax (hsrc σ G w _ hr (fun b hb => hg b (.inl hb)) (hx y my))
 ·rename_i b sz n hx0
  split at hG
  case h_2 => exact hG.elim
  rename_i e' u xs hb
  split at hG
  case isFalse => exact hG.elim
  rename_i hsz
  obtain ⟨rfl, hus, he⟩ := hsz
  obtain rfl := he.symm
  obtain ⟨rfl, hG⟩ := hG
  rcases src_ok hG with ⟨hy0, hG⟩ | ⟨u', ys, rd, hG, hsrc⟩
  ·refine ⟨_, _, _, _, hG, .pure fun σ G a w hx hg hr => ?_⟩
   have hax := hx x mx
   have hay := hx y my
   rw [hx0] at hax
   rw [hy0] at hay
   have hay : a.eval y = .slice none 0 0 := hay
   by_cases hxe : xs = []
   ·subst hxe
    obtain ⟨A, hv⟩ := (CC.osl_zero (σ := σ) (w := w) (b := b) (s := u.sz)).1 hax
    exact ⟨_, fin a w w (a.eval x) (by rw [hv, hay]; exact nothing w _ 0 0 none 0 (Nat.le_refl _)), hax⟩
   ·obtain ⟨hD, hs, cap, c, e', fr, hv, h3, h4, h5, h6⟩ := (CC.osl_pos (fun h0 => hxe (List.eq_nil_of_length_eq_zero h0))).1 hax
    exact ⟨_, fin a w w (a.eval x) (by rw [hv, hay]; exact nothing w _ _ cap none 0 h3), hax⟩
  ·split at hG
   case isFalse => exact hG.elim
   rename_i huu
   subst huu
   obtain ⟨hbytes, hG⟩ := hG
   have hbl : b < H.length := lt_of_get hb
   refine ⟨_, _, _, _, hG, by simp, fun k hk => by simp at hk ⊢; omega, fun k hk => ?_, fun σ G a w hx hg hD hr => ?_⟩
   ·simp at hk
    rw [gv_push_off (H := H.set b .dead) _ (by simp; exact hk.2)]
    exact gv_set_off (by simp; exact hk.1)
   ·have hax := hx x mx
    rw [hx0] at hax
    have hsrc' := hsrc σ G w _ hr (fun b hb => hg b (.inl hb)) (hx y my)
    have hmD : ¬ σ.D H.length := hD H.length (by simp) (Nat.le_refl _)
    by_cases hxe : xs = []
    ·subst hxe
     obtain ⟨A0, hv⟩ := (CC.osl_zero (σ := σ) (w := w) (b := b) (s := u'.sz)).1 hax
     have hfz := Stp.frz (G' := fun _ => .dead) (l := [b]) hr (fun _ _ => rfl)
     have hr1 := hfz.rel hr
     have gB : gv (H.set b .dead ++ [AB.ovec e u' ([] ++ ys)]) b = .dead := by
      rw [gv_push_off (H := H.set b .dead) _ (by simp; omega)]
      exact gv_set hbl
     have gN : gv (H.set b .dead ++ [AB.ovec e u' ([] ++ ys)]) H.length = nrm (.ovec e u' ys) := by
      have := gv_push_new (H := H.set b .dead) (AB.ovec e u' ([] ++ ys))
      rwa [List.length_set] at this
     by_cases hye : ys = []
     ·subst hye
      obtain ⟨A, m, c', news, hv', hm, _⟩ := hsrc'
      obtain rfl : m = 0 := hm
      refine .value (fin a w w (.slice A0 0 0) (by rw [hv, hv']; exact nothing w A0 0 0 A c' (Nat.le_refl _))) ⟨_, Stp.frz (l := [b, H.length]) hr (fun k hk => ?_), (CC.osl_zero (σ := fSD σ G [b, H.length]) (w := w) (b := H.length) (s := u'.sz)).2 ⟨A0, rfl⟩⟩
      simp at hk
      rcases hk with rfl | rfl
      ·exact gB
      ·exact gN
     ·obtain ⟨A, m, c', news, hv', hm, hA, n1, n2, n3, n4⟩ := hsrc'
      have hpos : 0 < m := by rw [hm]; exact List.length_pos_iff.2 hye
      cases A with
      | none => exact absurd (hA rfl) (by omega)
      | some ad =>
       have hb' : m * ie.bytes ≤ 140737488355328 := by rw [hm]; simpa using hbytes
       have hm63 : m ≤ 140737488355328 := Nat.le_trans (Nat.le_mul_of_pos_right _ hb0) hb'
       have hrun : (Builtin.append_ #[t, t] o.type #[.slice A0 0 0, .slice (some ad) m c']).run P w = .ok (.slice (some ⟨w.heap.size, 0, none⟩) m (grownCap w m 0 e)) (w.drew.alloc (.cells (news.toArray ++ Builtin.zeroCells z.cells (grownCap w m 0 e - m)) e)) := by
        cases A0 with
        | none => exact run_append_nil (P := P) w t o.type e ie z hu hie hz ad m c' news (by rw [n1, hus]) (n2 ad rfl) hpos (by omega) (by omega)
        | some a0 =>
         have := run_append_grow (P := P) w t o.type e ie z hu hie hz a0 0 0 [] (by simp) (fun j v hj => by simp at hj) ad m c' news (by rw [n1, hus]) (n2 ad rfl) (by omega) (by omega) (growslice_fits (by omega) (by simpa using hb'))
         simpa using this
       obtain ⟨σ', hs, i1, i2⟩ := Stp.allocW (w' := w.drew.alloc (.cells (news.toArray ++ Builtin.zeroCells z.cells (grownCap w m 0 e - m)) e)) (G' := gv (H.set b .dead ++ [AB.ovec e u' ([] ++ ys)])) hr1 (m := H.length) (fun hd => hd.elim hmD (fun h => by simp at h; omega)) rfl ⟨rfl, rfl, rfl⟩ (fun σ' hx' => by
        rw [gN, nrm_ovec hye]
        refine ⟨_, heap_alloc_new w.drew _, ?_, fun i x hi => ?_⟩
        ·rw [← hm, ← n1]; simp
        ·have := app_elems (α := Nat) (t := u') (Kk := fun x l => u'.rd.K σ'.R (w.drew.alloc (.cells (news.toArray ++ Builtin.zeroCells z.cells (grownCap w m 0 e - m)) e)) x l) (xs := []) (ys := ys) (olds := []) (news := news) (rest := (Builtin.zeroCells z.cells (grownCap w m 0 e - m)).toList) (by simp) (by rw [n1, hm]) (fun i x h => by simp at h) (fun i x h => rd_ext (hfz.ext.trans hx') (n4 i x h)) i x (by simpa using hi)
         simpa using this)
       have hge := grownCap_ge w m 0 e
       have hle := grownCap_le_maxLen w m 0 e (by simp only [maxLen]; omega)
       refine .value (fin a w _ _ (by rw [hv, hv']; exact hrun)) ⟨σ', (Stp.trans hr hfz hs).congr fun k hk => ?_, (CC.osl_pos (by simp; exact hye)).2 ⟨i2, u'.sz_pos, grownCap w m 0 e, _, e, (0, 0), by rw [i1, hm]; simp, by show ([] ++ ys).length ≤ _; rw [List.nil_append, ← hm]; simpa using hge, by simpa only [maxLen] using hle, by rw [i1]; exact heap_alloc_new w.drew _, ?_⟩⟩
       ·simp at hk
        unfold updG
        rcases hk with rfl | rfl
        ·rw [if_neg (by simp; omega), if_pos (by simp), gB]
        ·rw [if_pos (by simp)]
       ·simp only [Array.size_append, List.size_toArray, size_zeroCells, hzs, n1, ← hus, Nat.zero_add, ← Nat.add_mul]
        congr 1
        omega
    ·have hne : xs.length ≠ 0 := fun h0 => hxe (List.eq_nil_of_length_eq_zero h0)
     refine (app_sl (ab := .ovec e u' (xs ++ ys)) fin hu hie hz hzs hb0 hus hbl (nrm_ovec (by simp [hxe])) hbytes (by rw [hg b (.inr (by simp))]; exact gv_ovec hb hxe) hr hmD ((CC.osl_pos hne).1 hax) hsrc').mono fun v w' ⟨σ', h1, h2⟩ => ⟨σ', h1, (CC.osl_pos (by simp [hxe])).2 (by rw [List.length_append]; exact h2)⟩
 ·exact hG.elim
end
end Go.Proofs.YtkonkblfckhcbaaGreatDoor
namespace Go.Proofs.YtkonkblfckhcbaaGreatDoor
set_option linter.unusedVariables false
set_option linter.unusedSimpArgs false
open Go.RowKit

theorem plainCs_len : ∀ (t : Ty) (x : t.El), t.plain = true → (plainCs t x).length = t.sz
 | .int _, _, _ => rfl
 | .bool, _, _ => rfl
 | .str, _, _ => rfl
 | .pair a b, p, h => by
  simp only [Ty.plain, Bool.and_eq_true] at h
  simp [plainCs, Ty.sz, plainCs_len a p.1 h.1, plainCs_len b p.2 h.2]
 | .slice _, _, h => by cases h
theorem dec_plain {σ : Sg} {w : World} : ∀ (t : Ty), t.plain = true → ∀ {cs r : List CV} {x : t.El} {vs : List Value}, t.dec cs = some (x, r) → CCs σ w cs vs → vs.take t.sz = plainCs t x ∧ t.ok x ∧ CCs σ w r (vs.drop t.sz)
 | .int k, _, cs, r, x, vs, h, hc => by
  match cs, h with
  | .int k' n :: r', h =>
   simp only [Ty.dec] at h
   split at h
   ·rename_i hk
    subst hk
    injection h with h
    injection h with h1 h2
    subst h1; subst h2
    obtain ⟨v, vs', rfl, ⟨hv, hi⟩, hr⟩ := hc.cons_of
    subst hv
    exact ⟨rfl, hi, hr⟩
   ·cases h
 | .bool, _, cs, r, x, vs, h, hc => by
  match cs, h with
  | .bool n :: r', h =>
   simp only [Ty.dec] at h
   injection h with h
   injection h with h1 h2
   subst h1; subst h2
   obtain ⟨v, vs', rfl, hv, hr⟩ := hc.cons_of
   have hv : v = _ := hv
   subst hv
   exact ⟨rfl, trivial, hr⟩
  | .lit n :: r', h =>
   simp only [Ty.dec] at h
   injection h with h
   injection h with h1 h2
   subst h1; subst h2
   obtain ⟨v, vs', rfl, hv, hr⟩ := hc.cons_of
   have hv : v = _ := hv
   subst hv
   exact ⟨rfl, trivial, hr⟩
 | .str, _, cs, r, x, vs, h, hc => by
  match cs, h with
  | .str n :: r', h =>
   simp only [Ty.dec] at h
   injection h with h
   injection h with h1 h2
   subst h1; subst h2
   obtain ⟨v, vs', rfl, ⟨hv, hi⟩, hr⟩ := hc.cons_of
   subst hv
   exact ⟨rfl, hi, hr⟩
 | .pair a b, hp, cs, r, x, vs, h, hc => by
  simp only [Ty.plain, Bool.and_eq_true] at hp
  simp only [Ty.dec] at h
  split at h
  ·rename_i x1 r1 h1
   split at h
   ·rename_i y1 r2 h2
    injection h with h
    injection h with e1 e2
    subst e1; subst e2
    obtain ⟨p1, o1, c1⟩ := dec_plain a hp.1 h1 hc
    obtain ⟨p2, o2, c2⟩ := dec_plain b hp.2 h2 c1
    refine ⟨?_, ⟨o1, o2⟩, ?_⟩
    ·show vs.take (a.sz + b.sz) = plainCs a x1 ++ plainCs b y1
     rw [List.take_add, p1, p2]
    ·show CCs σ w _ (vs.drop (a.sz + b.sz))
     rw [← List.drop_drop]; exact c2
   ·cases h
  ·cases h
theorem decA_plain {σ : Sg} {w : World} {t : Ty} (hp : t.plain = true) {a : AV} {x : t.El} {v : Value} (h : decA t a = some x) (hv : CA σ w a v) : v = plainV t x ∧ t.ok x := by
 unfold decA at h
 unfold plainV
 split at h
 ·rename_i cs
  split at h
  ·rename_i hq
   split at h
   ·rename_i x' hd
    injection h with h
    subst h
    obtain ⟨vs, rfl, hc⟩ := hv
    obtain ⟨h1, h2, h3⟩ := dec_plain t hp hd hc
    have h4 : vs.toList.drop t.sz = [] := List.eq_nil_of_length_eq_zero h3.1.symm
    have h5 : vs.toList.take t.sz = vs.toList := List.take_of_length_le (by simpa using List.drop_eq_nil_iff.1 h4)
    rw [if_pos hq, ← h1, h5]
    exact ⟨by simp, h2⟩
   ·cases h
  ·cases h
 ·rename_i c
  split at h
  ·cases h
  ·rename_i hq
   split at h
   ·rename_i x' hd
    injection h with h
    subst h
    have hv : CC σ w c v := hv
    obtain ⟨h1, h2, h3⟩ := dec_plain t hp hd (.cons hv .nil : CCs σ w [c] [v])
    have h4 : ([v] : List Value).drop t.sz = [] := List.eq_nil_of_length_eq_zero h3.1.symm
    have h5 : ([v] : List Value).take t.sz = [v] := List.take_of_length_le (by simpa using List.drop_eq_nil_iff.1 h4)
    rw [if_neg hq, ← h1, h5]
    exact ⟨rfl, h2⟩
   ·cases h
 ·cases h
theorem enc_plain {σ : Sg} {w : World} : ∀ (t : Ty) (x : t.El), t.plain = true → t.ok x → CCs σ w (t.enc x) (plainCs t x)
 | .int k, n, _, h => .cons ⟨rfl, h⟩ .nil
 | .bool, _, _, _ => .cons rfl .nil
 | .str, _, _, h => .cons ⟨rfl, h⟩ .nil
 | .pair a b, p, hp, h => by
  simp only [Ty.plain, Bool.and_eq_true] at hp
  exact All2.app (enc_plain a p.1 hp.1 h.1) (enc_plain b p.2 hp.2 h.2)
 | .slice _, _, h, _ => by cases h
theorem encA_plain {σ : Sg} {w : World} {t : Ty} (hp : t.plain = true) {x : t.El} (h : t.ok x) : CA1 σ w (encA t x) (plainV t x) := by
 have hc := enc_plain (σ := σ) (w := w) t x hp h
 unfold encA plainV
 split
 ·exact ⟨_, rfl, by simpa using hc⟩
 ·rename_i hq
  cases t with
  | int => exact hc.2 0 _ _ rfl rfl
  | bool => exact hc.2 0 _ _ rfl rfl
  | str => exact hc.2 0 _ _ rfl rfl
  | pair => exact absurd rfl hq
  | slice => cases hp
theorem plain_inj : ∀ (t : Ty), t.plain = true → ∀ {x y : t.El}, plainCs t x = plainCs t y → x = y
 | .int k, _, x, y, h => by injection h with h; injection h
 | .bool, _, x, y, h => by injection h with h; injection h
 | .str, _, x, y, h => by injection h with h; injection h
 | .pair a b, hp, x, y, h => by
  simp only [Ty.plain, Bool.and_eq_true] at hp
  have h : plainCs a x.1 ++ plainCs b x.2 = plainCs a y.1 ++ plainCs b y.2 := h
  obtain ⟨h1, h2⟩ := List.append_inj h (by rw [plainCs_len a _ hp.1, plainCs_len a _ hp.1])
  exact Prod.ext (plain_inj a hp.1 h1) (plain_inj b hp.2 h2)
 | .slice _, h, _, _, _ => by cases h
theorem plainV_inj {t : Ty} (hp : t.plain = true) {x y : t.El} (h : plainV t x = plainV t y) : x = y := by
 apply plain_inj t hp
 unfold plainV at h
 split at h
 ·injection h with h
  simpa using congrArg Array.toList h
 ·rename_i hq
  cases t with
  | int => exact congrArg (fun v => [v]) h
  | bool => exact congrArg (fun v => [v]) h
  | str => exact congrArg (fun v => [v]) h
  | pair => exact absurd rfl hq
  | slice => cases hp
end Go.Proofs.YtkonkblfckhcbaaGreatDoor
namespace Go.Proofs.YtkonkblfckhcbaaGreatDoor
set_option linter.unusedVariables false
set_option linter.unusedSimpArgs false
open Go.RowKit Go.Maps

theorem Stp.mapPut {σ : Sg} {G G' : Nat → AB} {w w' : World} {b : Nat} (hr : RelG σ G w) (hb : G b ≠ .dead) (ht : w.mapTurned w' (σ.ι b)) (hB : Blk σ w' (σ.ι b) (σ.F b) (G' b)) : Stp σ G w [b] G' σ w' := by
  obtain ⟨es, clock, es', clock', hm, rfl⟩ := ht
  have hne : ∀ k, k ≠ σ.ι b → (ChangeMaps.setBlock w (σ.ι b) (.map es' clock')).heap[k]? = w.heap[k]? := fun k hk => by
    simp [ChangeMaps.setBlock, Array.getElem?_setIfInBounds_ne (Ne.symm hk)]
  have hsz : (ChangeMaps.setBlock w (σ.ι b) (.map es' clock')).heap.size = w.heap.size := by simp [ChangeMaps.setBlock]
  have hx : Ext σ w σ (ChangeMaps.setBlock w (σ.ι b) (.map es' clock')) := ⟨fun k hk => ⟨hk, rfl⟩, fun _ h => h, fun k hk _ => hne k (by rintro rfl; exact hr.out b hb hk), fun k c e fr hk => ⟨c, fr, by rw [hne k (by rintro rfl; rw [hm] at hk; cases hk)]; exact hk, rfl⟩⟩
  refine ⟨fun k => ?_, hx, ⟨rfl, rfl, rfl, Nat.le_of_eq hsz.symm, fun k _ hk => hne k (by rintro rfl; exact hk ⟨b, by simp, hb, .inl rfl⟩)⟩, ?_, ?_, ?_, fun k h => .inl h, ?_, fun k hk => by rw [hsz]; exact hr.rlt k hk, ?_, fun _ _ _ => rfl⟩
  · constructor
    · exact .inl
    · rintro (h | h)
      · exact h
      · obtain rfl : k = b := by simpa using h
        exact hr.dom k hb
  · intro k hk _
    obtain rfl : k = b := by simpa using hk
    exact hB
  · intro k hk _ q hq
    obtain rfl : k = b := by simpa using hk
    exact .inl ⟨k, by simp, hb, hq⟩
  · intro k hk k' hk' _ _ _ _ _
    obtain rfl : k = b := by simpa using hk
    obtain rfl : k' = k := by simpa using hk'
    rfl
  · intro k hk _
    obtain rfl : k = b := by simpa using hk
    exact hr.outF k hb
  · intro k hk _ q hq
    obtain rfl : k = b := by simpa using hk
    exact (hr.flt k hb q hq).ext hx
section
variable {P : Program} {S : List Item → List AV → List AB → Prop} {Q : AV → List AB → Prop} {oc : Orc} {o : Oper} {env : List AV} {H : List AB} {K : Kont}
theorem ok_makeMap {t : TypeId} (ho : o.op = .makeMap t none) (hG : Good P S Q (aMakeMap P t H K)) : ∃ v H' rd wr, Good P S Q (K v H' rd wr) ∧ Acts P o env H v H' rd wr := by
  unfold aMakeMap at hG
  split at hG
  · split at hG
    · split at hG
      · rename_i k e hu _ _ kt et _ _ hpl
        obtain ⟨hP, hG⟩ := hG
        subst hP
        refine ⟨_, _, _, _, hG, by simp, fun b hb => by simp at hb; simp [hb], fun b hb => gv_push_off _ hb, fun σ G a w hx hg hD hr => ?_⟩
        obtain ⟨σ', hs, i1, i2⟩ := Stp.allocO (w' := w.alloc (.map #[] 0)) (ob := .map #[] 0) (G' := gv (H ++ [AB.map k kt et 0 (fun _ => none)])) hr (hD H.length (by simp) (Nat.le_refl _)) rfl ⟨rfl, rfl, rfl⟩ (fun σ' hx' => by
          rw [gv_push_new]
          show Blk σ' _ _ _ (.map k kt et 0 _)
          exact ⟨_, MapIs.made _ _ _, fun x => rfl, fun x y h => by cases h⟩)
        refine .value (v := .map (some w.heap.size)) ?_ ⟨σ', hs, i2, by rw [i1]⟩
        simp [execOp, ho, Instr.makeMap, newObj]
        rfl
      · exact hG.elim
    · exact hG.elim
  · exact hG.elim
theorem ok_lookup {t : TypeId} {m x : Operand} {ok : Bool} (ho : o.op = .lookup t m x ok) (hG : Good P S Q (aLookup P t (ev env m) (ev env x) ok H K)) : ∃ v H' rd wr, Good P S Q (K v H' rd wr) ∧ Acts P o env H v H' rd wr := by
  unfold aLookup at hG
  split at hG
  case h_2 => exact hG.elim
  rename_i k e b hu hm
  split at hG
  case h_2 => exact hG.elim
  rename_i k' kt et n f zv hb hz
  split at hG
  case isFalse => exact hG.elim
  rename_i hc
  obtain ⟨rfl, hkp, hep⟩ := hc
  split at hG
  case h_2 => exact hG.elim
  rename_i key z hkey hzd
  obtain ⟨⟨hP, hK, hkl⟩, hG⟩ := hG
  subst hP
  refine ⟨_, _, _, _, hG, .pure fun σ G a w hx hg hr => ?_⟩
  have hax := hx m (by rw [ho]; simp [Op.operands])
  have hay := hx x (by rw [ho]; simp [Op.operands])
  rw [hm] at hax
  obtain ⟨hD, hv⟩ := hax
  have hgb : G b = .map k' kt et n f := by rw [hg b (by simp)]; exact gv_of hb
  have hbk := hr.blk b (by rw [hgb]; simp)
  rw [hgb] at hbk
  obtain ⟨F, hM, h1, h2⟩ := hbk
  obtain ⟨ek, ok1⟩ := decA_plain hkp hkey hay
  obtain ⟨kl, hkl⟩ := hkl key ok1
  obtain ⟨ez, ok2⟩ := decA_plain (σ := σ) (w := w) hep hzd (constV_ok zv)
  have hzr := run_zeroValue_of (w := w) hz
  have hval : (F (plainV kt key)).getD zv = plainV et ((f key).getD z) := by
    rw [h1 key, ez]
    cases f key <;> rfl
  have hok : et.ok ((f key).getD z) := by
    cases hq : f key with
    | none => exact ok2
    | some y => exact h2 key y hq
  cases ok with
  | false =>
    refine ⟨plainV et ((f key).getD z), ?_, encA_plain hep hok⟩
    have hl := hM.look hK hu hzr hkl
    rw [hval] at hl
    simp only [execOp, ho, hv, ek]
    exact run_op_value hl
  | true =>
    refine ⟨.tuple #[plainV et ((f key).getD z), .bool (f key).isSome], ?_, _, rfl, .cons (encA_plain hep hok) (.cons (rfl : CC σ w (.bool _) _) .nil)⟩
    have hl := hM.look_ok hK hu hzr hkl
    rw [hval, h1 key] at hl
    simp only [execOp, ho, hv, ek]
    have e : ((f key).map (plainV et)).isSome = (f key).isSome := by cases f key <;> rfl
    rw [e] at hl
    exact run_op_value hl
theorem ok_mapPut {t : TypeId} {m x y : Operand} (ho : o.op = .mapUpdate t m x y) (hG : Good P S Q (aMapPut P t (ev env m) (ev env x) (ev env y) H K)) : ∃ v H' rd wr, Good P S Q (K v H' rd wr) ∧ Acts P o env H v H' rd wr := by
  unfold aMapPut at hG
  split at hG
  case h_2 => exact hG.elim
  rename_i k e b hu hm
  split at hG
  case h_2 => exact hG.elim
  rename_i k' kt et n f hb
  split at hG
  case isFalse => exact hG.elim
  rename_i hc
  obtain ⟨rfl, hkp, hep⟩ := hc
  split at hG
  case h_2 => exact hG.elim
  rename_i key val hkey hval
  obtain ⟨⟨hP, ⟨hK, hkl⟩, hn⟩, hG⟩ := hG
  subst hP
  refine ⟨_, _, _, _, hG, by simp, fun k hk => by obtain rfl : k = b := by simpa using hk
                                                  simpa using lt_of_get hb, fun k hk => gv_set_off hk, fun σ G a w hx hg hD hr => ?_⟩
  have hax := hx m (by rw [ho]; simp [Op.operands])
  have hay := hx x (by rw [ho]; simp [Op.operands])
  have haz := hx y (by rw [ho]; simp [Op.operands])
  rw [hm] at hax
  obtain ⟨hDb, hv⟩ := hax
  have hgb : G b = .map k' kt et n f := by rw [hg b (by simp)]; exact gv_of hb
  have hbk := hr.blk b (by rw [hgb]; simp)
  rw [hgb] at hbk
  obtain ⟨F, hM, h1, h2⟩ := hbk
  obtain ⟨ek, ok1⟩ := decA_plain hkp hkey hay
  obtain ⟨ev_, ok2⟩ := decA_plain hep hval haz
  obtain ⟨kl, hkl⟩ := hkl key ok1
  obtain ⟨w', hrun, hM', ht⟩ := hM.store hK hu (by simp only [maxLen]; omega) hkl (plainV et val)
  refine .skip ?_ ⟨σ, Stp.mapPut (G' := gv (H.set b (.map k' kt et (n + 1) (updM f key val)))) hr (by rw [hgb]; simp) ht ?_, trivial⟩
  · simp only [execOp, ho, hv, ek, ev_]
    simp [hrun]
  · rw [gv_set (lt_of_get hb)]
    show Blk σ _ _ _ (.map ..)
    refine ⟨_, hM', fun z => ?_, fun z u hz => ?_⟩
    · unfold updM
      split
      · rename_i hq; rw [hq, updF_same]; rfl
      · rename_i hq; rw [updF_other _ _ (fun he => hq (plainV_inj hkp he)), h1]
    · unfold updM at hz
      split at hz
      · injection hz with hz; rw [← hz]; exact ok2
      · exact h2 z u hz
end
end Go.Proofs.YtkonkblfckhcbaaGreatDoor
namespace Go.Proofs.YtkonkblfckhcbaaGreatDoor
set_option linter.unusedVariables false
set_option linter.unusedSimpArgs false
open Go.RowKit

theorem holeAt_put_self : ∀ (hs : List (Nat × CV)) (j : Nat) (c : CV), holeAt (holePut hs j c) j = some c
 | [], j, c => by simp [holePut, holeAt]
 | p :: r, j, c => by
  unfold holePut
  split
  ·simp [holeAt]
  ·rename_i h
   simp only [holeAt]
   rw [if_neg h]
   exact holeAt_put_self r j c
theorem holeAt_put_other {j j' : Nat} (hj : j' ≠ j) : ∀ (hs : List (Nat × CV)) (c : CV), holeAt (holePut hs j c) j' = holeAt hs j'
 | [], c => by simp [holePut, holeAt, hj.symm]
 | p :: r, c => by
  unfold holePut
  split
  ·rename_i h
   have h := Nat.eq_of_beq_eq_true h
   simp only [holeAt]
   rw [if_neg (by simpa using hj.symm), if_neg (by rw [h]; simpa using hj.symm)]
  ·simp only [holeAt]
   split
   ·rfl
   ·exact holeAt_put_other hj r c
theorem Pos.one {σ : Sg} {w : World} {m : Md} {v : Value} {φ : Nat → Prop} {p : Slot} (h : Pos σ w m v φ p) : v.oneCell' = true := by
 cases p with
 | cv c => exact CC.one h
 | sl e s ys =>
  cases m with
  | apart => exact h
  | ro => exact (Rd.slice s.ty.rd).one h v (by simp)
  | own => rcases h with ⟨_, A, rfl⟩ | ⟨_, q, cap, c, rfl, _⟩ <;> rfl
 | no => exact h.elim
theorem cellsN_ok {σ : Sg} {w : World} {s : Sk} {x : s.ty.El} {md : Nat → Md} {ψ : Nat → Nat → Prop} {cs : List Value} (h : ∀ j v, cs[j]? = some v → Pos σ w (md j) v (ψ j) (s.slot x j)) : ∀ (n j : Nat), j + n ≤ cs.length → CCs σ w (cellsN s x j n) ((cs.drop j).take n)
 | 0, j, _ => by simpa [cellsN] using (All2.nil : CCs σ w [] [])
 | n + 1, j, hl => by
  have hj : j < cs.length := by omega
  have h1 := h j cs[j] (List.getElem?_eq_getElem hj)
  have h2 := cellsN_ok h n (j + 1) (by omega)
  rw [List.drop_eq_getElem_cons hj, List.take_succ_cons]
  refine .cons ?_ h2
  cases hp : s.slot x j with
  | cv c => rw [hp] at h1; exact h1
  | sl e s' ys => exact h1.one
  | no => rw [hp] at h1; exact h1.elim
/-- A place, written. -/
theorem set1_ok {σ : Sg} {w : World} {c : CV} {v : Value} (hc : CC σ w c v) (s : Sk) : ∀ {x y : s.ty.El} {j : Nat}, s.set1 x j c = some y → (∃ c', s.slot y j = .cv c' ∧ CC σ w c' v) ∧ ∀ p, p ≠ j → s.slot y p = s.slot x p := by
 induction s with
 | pair a b iha ihb =>
  intro x y j h
  simp only [Sk.set1] at h
  split at h
  ·rename_i hj
   split at h
   ·rename_i z hz
    injection h with h
    subst h
    obtain ⟨⟨c', h1, h2⟩, h3⟩ := iha hz
    refine ⟨⟨c', by simp only [Sk.slot]; rw [if_pos hj]; exact h1, h2⟩, fun p hp => ?_⟩
    simp only [Sk.slot]
    split
    ·exact h3 p hp
    ·rfl
   ·cases h
  ·rename_i hj
   split at h
   ·rename_i z hz
    injection h with h
    subst h
    obtain ⟨⟨c', h1, h2⟩, h3⟩ := ihb hz
    refine ⟨⟨c', by simp only [Sk.slot]; rw [if_neg hj]; exact h1, h2⟩, fun p hp => ?_⟩
    simp only [Sk.slot]
    split
    ·rfl
    ·rename_i hp'
     exact h3 _ (by omega)
   ·cases h
 | slice e s _ => intro x y j h; cases j <;> cases h
 | int k =>
  intro x y j h
  cases j with
  | succ j => cases h
  | zero =>
   refine ⟨?_, fun p hp => by cases p with
    | zero => exact absurd rfl hp
    | succ p => rfl⟩
   cases c <;> first | (cases h; done) | skip
   rename_i k' n
   simp only [Sk.set1] at h
   split at h
   ·rename_i hk
    injection h with h
    subst h; subst hk
    exact ⟨_, rfl, hc⟩
   ·cases h
 | bool =>
  intro x y j h
  cases j with
  | succ j => cases h
  | zero =>
   refine ⟨?_, fun p hp => by cases p with
    | zero => exact absurd rfl hp
    | succ p => rfl⟩
   cases c <;> first | (cases h; done) | skip
   ·injection h with h; subst h; exact ⟨_, rfl, hc⟩
   ·injection h with h; subst h; exact ⟨_, rfl, hc⟩
 | str =>
  intro x y j h
  cases j with
  | succ j => cases h
  | zero =>
   refine ⟨?_, fun p hp => by cases p with
    | zero => exact absurd rfl hp
    | succ p => rfl⟩
   cases c <;> first | (cases h; done) | skip
   injection h with h; subst h; exact ⟨_, rfl, hc⟩
 | ro e =>
  intro x y j h
  cases j with
  | succ j => cases h
  | zero =>
   refine ⟨?_, fun p hp => by cases p with
    | zero => exact absurd rfl hp
    | succ p => rfl⟩
   cases c <;> first | (cases h; done) | skip
   ·rename_i e' xs
    simp only [Sk.set1] at h
    split at h
    ·rename_i he
     subst he
     injection h with h
     subst h
     exact ⟨_, rfl, hc⟩
    ·cases h
   ·injection h with h; subst h
    have hv : v = .slice none 0 0 := hc
    subst hv
    exact ⟨_, rfl, rd_nil⟩
/-- An element as it stands, with the rows that are named apart. -/
structure ElOk (σ : Sg) (w : World) (s : Sk) (base : Nat → Md) (hot : Prop) (hs : List (Nat × CV)) (x : s.ty.El) (cs : List Value) (ψ : Nat → Nat → Prop) : Prop where
 len : cs.length = s.ty.sz
 pos : ∀ p v, cs[p]? = some v → ∀ m, (hot → (holeAt hs p).isSome = true → m = .apart) → (¬ (hot ∧ (holeAt hs p).isSome = true) → m = base p) → Pos σ w m v (ψ p) (s.slot x p)
 hole : hot → ∀ p c e' s' ys, holeAt hs p = some c → s.slot x p = .sl e' s' ys → ∃ u, cs[p]? = some u ∧ CC σ w c u
theorem putN_ch (s : Sk) : ∀ (r : List CV) (x y : s.ty.El) (hs hs' : List (Nat × CV)) (j : Nat) (ch' : Bool), putN s x hs j r true = some (y, hs', ch') → ch' = true
 | [], x, y, hs, hs', j, ch', h => by
  simp only [putN] at h
  injection h with h
  injection h with _ h
  injection h with _ h
  exact h.symm
 | c :: r, x, y, hs, hs', j, ch', h => by
  simp only [putN] at h
  split at h
  ·split at h
   ·exact putN_ch s r _ y hs hs' _ ch' h
   ·cases h
  ·exact putN_ch s r _ y _ hs' _ ch' h
  ·cases h
theorem putN_ok {σ : Sg} {w : World} {s : Sk} {base : Nat → Md} {hot : Prop} {ψ : Nat → Nat → Prop} : ∀ (r : List CV) (vs : List Value) (x y : s.ty.El) (hs hs' : List (Nat × CV)) (j : Nat) (ch ch' : Bool) (cs : List Value), putN s x hs j r ch = some (y, hs', ch') → (ch' = true → hot) → CCs σ w r vs → ElOk σ w s base hot hs x cs ψ → j + r.length ≤ cs.length →
  ElOk σ w s base hot hs' y (cs.take j ++ vs ++ cs.drop (j + vs.length)) ψ ∧ (ch' = false → hs' = hs)
 | [], vs, x, y, hs, hs', j, ch, ch', cs, h, _, hv, he, _ => by
  rw [hv.nil_of]
  simp only [putN] at h
  injection h with h
  injection h with h1 h
  injection h with h2 h3
  subst h1; subst h2; subst h3
  simpa using he
 | c :: r, vs, x, y, hs, hs', j, ch, ch', cs, h, hh, hv, he, hl => by
  obtain ⟨v, vs', rfl, hc, hr⟩ := hv.cons_of
  have hj : j < cs.length := by simp at hl; omega
  have hgo : cs.take j ++ v :: vs' ++ cs.drop (j + (v :: vs').length) = (cs.set j v).take (j + 1) ++ vs' ++ (cs.set j v).drop (j + 1 + vs'.length) := by
   have e1 : (cs.set j v).take (j + 1) = cs.take j ++ [v] := by
    apply List.ext_getElem?
    intro k
    simp only [List.getElem?_take, List.getElem?_set, List.getElem?_append, List.length_take]
    by_cases h1 : k < j
    ·rw [if_pos (by omega), if_neg (by omega), if_pos (by omega), if_pos h1]
    ·by_cases h2 : k = j
     ·subst h2
      rw [if_pos (by omega), if_pos rfl, if_pos hj, if_neg (by omega)]
      rw [show k - min k cs.length = 0 by omega]; rfl
     ·rw [if_neg (by omega), if_neg (by omega), List.getElem?_eq_none (by simp; omega)]
   have e2 : (cs.set j v).drop (j + 1 + vs'.length) = cs.drop (j + 1 + vs'.length) := by
    apply List.ext_getElem?
    intro k
    rw [List.getElem?_drop, List.getElem?_drop, List.getElem?_set_ne (by omega)]
   rw [e1, e2]
   simp [Nat.add_assoc, Nat.add_comm 1]
  rw [hgo]
  have hl' : j + 1 + r.length ≤ (cs.set j v).length := by simp at hl ⊢; omega
  have cell : ∀ p u, (cs.set j v)[p]? = some u → (p = j ∧ u = v) ∨ (p ≠ j ∧ cs[p]? = some u) := fun p u hu => by
   rw [List.getElem?_set] at hu
   split at hu
   ·rename_i e
    (try rw [if_pos hj] at hu)
    injection hu with hu
    exact .inl ⟨e.symm, hu.symm⟩
   ·rename_i e
    exact .inr ⟨fun q => e q.symm, hu⟩
  simp only [putN] at h
  split at h
  ·rename_i c0 hs0
   split at h
   ·rename_i z hz
    obtain ⟨⟨c', k1, k2⟩, k3⟩ := set1_ok hc s hz
    refine putN_ok r vs' z y hs hs' (j + 1) ch ch' (cs.set j v) h hh hr ⟨by simpa using he.len, fun p u hu m m1 m2 => ?_, fun hot' p q e' s' ys hq hsl => ?_⟩ hl'
    ·rcases cell p u hu with ⟨rfl, rfl⟩ | ⟨hp, hu⟩
     ·rw [k1]; exact k2
     ·rw [k3 p hp]; exact he.pos p u hu m m1 m2
    ·by_cases hp : p = j
     ·subst hp; rw [k1] at hsl; cases hsl
     ·rw [k3 p hp] at hsl
      obtain ⟨u, hu, hq'⟩ := he.hole hot' p q e' s' ys hq hsl
      exact ⟨u, by rw [List.getElem?_set_ne (Ne.symm hp)]; exact hu, hq'⟩
   ·cases h
  ·rename_i e0 s0 ys0 hs0
   have hc' := putN_ch s r _ y _ hs' _ ch' h
   have hot' : hot := hh hc'
   have hE : ElOk σ w s base hot (holePut hs j c) x (cs.set j v) ψ := by
    refine ⟨by simpa using he.len, fun p u hu m m1 m2 => ?_, fun _ p q e' s' ys hq hsl => ?_⟩
    ·rcases cell p u hu with ⟨rfl, rfl⟩ | ⟨hp, hu⟩
     ·have hm := m1 hot' (by rw [holeAt_put_self]; rfl)
      rw [hs0, hm]
      exact hc.one
     ·refine he.pos p u hu m (fun h1 h2 => m1 h1 ?_) (fun h1 => m2 ?_)
      ·rw [holeAt_put_other hp]; exact h2
      ·rw [holeAt_put_other hp]; exact h1
    ·by_cases hp : p = j
     ·subst hp
      rw [holeAt_put_self] at hq
      injection hq with hq
      subst hq
      exact ⟨v, List.getElem?_set_self hj, hc⟩
     ·rw [holeAt_put_other hp] at hq
      obtain ⟨u, hu, hq'⟩ := he.hole hot' p q e' s' ys hq hsl
      exact ⟨u, by rw [List.getElem?_set_ne (Ne.symm hp)]; exact hu, hq'⟩
   have hq := putN_ok r vs' x y (holePut hs j c) hs' (j + 1) true ch' (cs.set j v) h hh hr hE hl'
   exact ⟨hq.1, fun h0 => by rw [hc'] at h0; cases h0⟩
  ·cases h
/-- What a place of an element is read as. -/
theorem elem_le {len n i sz : Nat} (hi : i < len) (h : len * sz ≤ n) : i * sz + sz ≤ n := by
 have : (i + 1) * sz ≤ len * sz := Nat.mul_le_mul_right _ hi
 rw [Nat.succ_mul] at this
 omega
theorem flat_rd {R : Nat → Prop} {w : World} (s : Sk) : s.flat = true → ∀ {md : Nat → Md} {o : Nat} {x : s.ty.El} {cs : List Value} {ψ : Nat → Nat → Prop}, s.At R w md o x cs ψ → s.ty.rd.K R w x cs := by
 induction s with
 | pair a b iha ihb =>
  intro h md o x cs ψ hA
  simp only [Sk.flat, Bool.and_eq_true] at h
  exact ⟨_, _, (List.take_append_drop _ _).symm, iha h.1 hA.1, ihb h.2 hA.2⟩
 | slice e s _ => intro h; cases h
 | int k => exact fun _ {_ _ _ _ _} hA => hA
 | bool => exact fun _ {_ _ _ _ _} hA => hA
 | str => exact fun _ {_ _ _ _ _} hA => hA
 | ro e => exact fun _ {_ _ _ _ _} hA => hA
theorem putN_same (s : Sk) : ∀ (r : List CV) (x y : s.ty.El) (hs hs' : List (Nat × CV)) (j : Nat) (ch : Bool), putN s x hs j r ch = some (y, hs', false) → hs' = hs
 | [], x, y, hs, hs', j, ch, h => by
  simp only [putN] at h
  injection h with h
  injection h with _ h
  injection h with h _
  exact h.symm
 | c :: r, x, y, hs, hs', j, ch, h => by
  simp only [putN] at h
  split at h
  ·split at h
   ·exact putN_same s r _ y hs hs' _ ch h
   ·cases h
  ·exact absurd (putN_ch s r _ y _ hs' _ false h) (by simp)
  ·cases h
section
variable {P : Program} {S : List Item → List AV → List AB → Prop} {Q : AV → List AB → Prop} {oc : Orc} {o : Oper} {env : List AV} {H : List AB} {K : Kont}
theorem run_loadVar_one {t : TypeId} {a : Addr} {u : Value} {w : World} (hb : isAggB P t = some false) (h : w.cell? a = some u) : (loadVar t a).run P w = .ok u w := by
 unfold loadVar
 simp only [Sem.run_bind, run_isAgg_of hb, Result.andThen_ok]
 simp [h]
theorem load_el {σ : Sg} {w : World} {t : TypeId} {n i j b sz : Nat} {L : List CV} {v : AV} {c : Array Value} {e : TypeId} {fr : Nat × Nat} (hn : szT P t = some n) (hv : asT P t L = some v) (hc : w.heap[b]? = some (.cells c e fr)) (hle : i * sz + sz ≤ c.toList.length) (hj : j + n ≤ sz) (hL : CCs σ w L ((((c.toList.drop (i * sz)).take sz).drop j).take n)) :
  ∃ y, (loadVar t ⟨b, i * sz + j, none⟩).run P w = .ok y w ∧ CA σ w v y :=
 run_loadVar_of (P := P) (w := w) (a := ⟨b, i * sz + j, none⟩) hn hv hL (by simp only [List.length_take, List.length_drop]; omega) rfl (fun k u' hu => by
  rw [cell_row hc]
  rw [List.getElem?_take] at hu
  split at hu
  ·rw [List.getElem?_drop, List.getElem?_take] at hu
   split at hu
   ·rw [List.getElem?_drop] at hu; rw [← hu]; congr 1; simp only; omega
   ·cases hu
  ·cases hu)
theorem getD_el {α : Type} {xs : List α} {i : Nat} (d : α) (hi : i < xs.length) : xs.getD i d = xs[i] := by simp [List.getD_eq_getElem?_getD, List.getElem?_eq_getElem hi]
theorem el_len {c : Array Value} {len i sz : Nat} (hi : i < len) (h : len * sz ≤ c.size) : ((c.toList.drop (i * sz)).take sz).length = sz := by
 have := elem_le hi h
 simp only [List.length_take, List.length_drop, Array.length_toList]
 omega
theorem nest_cells {σ : Sg} {w : World} {b : Nat} {φ : Nat → Prop} {e : TypeId} {s : Sk} {xs : List s.ty.El} {ko : Option (Nat × Nat)} {hi : Nat} {hs : List (Nat × CV)} (h : Blk σ w b φ (.nest e s xs ko hi hs)) {i : Nat} (hi' : i < xs.length) {c : Array Value} (hc : w.heap[b]? = some (.cells c e (0, 0))) : ∃ χ : Nat → Nat → Prop, ∀ p v, ((c.toList.drop (i * s.ty.sz)).take s.ty.sz)[p]? = some v → Pos σ w (mdOf ko hi hs i p) v (χ p) (s.slot xs[i] p) := by
 obtain ⟨c', h1, h2, χ, h3, h4, h5, h6⟩ := h
 rw [hc] at h1
 injection h1 with h1
 injection h1 with h1
 subst h1
 have := (at_iff s).1 (h5 i xs[i] (List.getElem?_eq_getElem hi'))
 exact ⟨χ i, fun p v hv => by have := this.2 p v hv; rwa [Nat.zero_add] at this⟩
theorem rd_of_pos {σ : Sg} {w : World} (s : Sk) : ∀ {x : s.ty.El} {cs : List Value} {ψ : Nat → Nat → Prop}, cs.length = s.ty.sz → (∀ p v, cs[p]? = some v → Pos σ w .ro v (ψ p) (s.slot x p)) → s.ty.rd.K σ.R w x cs := by
 induction s with
 | pair a b iha ihb =>
  intro x cs ψ hl h
  have hl : cs.length = a.ty.sz + b.ty.sz := hl
  refine ⟨cs.take a.ty.sz, cs.drop a.ty.sz, (List.take_append_drop _ _).symm, iha (ψ := ψ) (by rw [List.length_take]; omega) (fun p v hv => ?_), ihb (ψ := fun p => ψ (a.ty.sz + p)) (by rw [List.length_drop]; omega) (fun p v hv => ?_)⟩
  ·rw [List.getElem?_take] at hv
   split at hv
   ·rename_i hp
    have := h p v hv
    have e : (Sk.pair a b).slot x p = a.slot x.1 p := if_pos hp
    rwa [e] at this
   ·cases hv
  ·rw [List.getElem?_drop] at hv
   have := h _ v hv
   have e : (Sk.pair a b).slot x (a.ty.sz + p) = b.slot x.2 p := by
    show (if a.ty.sz + p < a.ty.sz then _ else b.slot x.2 (a.ty.sz + p - a.ty.sz)) = _
    rw [if_neg (by omega), show a.ty.sz + p - a.ty.sz = p by omega]
   rwa [e] at this
 | slice e s _ =>
  intro x cs ψ hl h
  have hl : cs.length = 1 := hl
  match cs, hl with
  | [v], _ => exact h 0 v rfl
 | int k =>
  intro x cs ψ hl h
  exact ((at_iff (σ := σ) (w := w) (.int k) (md := fun _ => .ro) (o := 0) (x := x) (cs := cs) (ψ := ψ)).2 ⟨hl, fun p v hv => by rw [Nat.zero_add]; exact h p v hv⟩)
 | bool =>
  intro x cs ψ hl h
  exact ((at_iff (σ := σ) (w := w) .bool (md := fun _ => .ro) (o := 0) (x := x) (cs := cs) (ψ := ψ)).2 ⟨hl, fun p v hv => by rw [Nat.zero_add]; exact h p v hv⟩)
 | str =>
  intro x cs ψ hl h
  exact ((at_iff (σ := σ) (w := w) .str (md := fun _ => .ro) (o := 0) (x := x) (cs := cs) (ψ := ψ)).2 ⟨hl, fun p v hv => by rw [Nat.zero_add]; exact h p v hv⟩)
 | ro e =>
  intro x cs ψ hl h
  exact ((at_iff (σ := σ) (w := w) (.ro e) (md := fun _ => .ro) (o := 0) (x := x) (cs := cs) (ψ := ψ)).2 ⟨hl, fun p v hv => by rw [Nat.zero_add]; exact h p v hv⟩)
theorem one_drop {α : Type} {l : List α} {j : Nat} {u : α} (h : l[j]? = some u) : (l.drop j).take 1 = [u] := by
 obtain ⟨hj, rfl⟩ := List.getElem?_eq_some_iff.1 h
 rw [List.drop_eq_getElem_cons hj]
 rfl
/-- A row of one's own, by a name of its own. -/
theorem focus_stp {σ : Sg} {w : World} {G : Nat → AB} {b m : Nat} {e : TypeId} {s : Sk} {xs : List s.ty.El} {hi : Nat} {hs : List (Nat × CV)} {i j : Nat} {e' : TypeId} {s' : Sk} {ys : List s'.ty.El} {G' : Nat → AB}
  (hr : RelG σ G w) (hG : G b = .nest e s xs none hi hs) (hi' : i < xs.length) (hsl : s.slot xs[i] j = .sl e' s' ys) (hh : holeAt hs j = none) (hhi : hs = [] ∨ i = hi) (hm : ¬ σ.D m) (hbm : b ≠ m)
  (hGb : G' b = .nest e s xs none i (holePut hs j (.osl m s'.ty.sz ys.length))) (hGm : G' m = nrm (subOf e' s' ys)) {c : Array Value} (hc : w.heap[σ.ι b]? = some (.cells c e (0, 0))) {u : Value} (hu : ((c.toList.drop (i * s.ty.sz)).take s.ty.sz)[j]? = some u) :
  ∃ σ', Stp σ G w [b, m] G' σ' w ∧ CC σ' w (.osl m s'.ty.sz ys.length) u := by
 have hne : G b ≠ .dead := by rw [hG]; simp
 have hbk := hr.blk b hne
 rw [hG] at hbk
 obtain ⟨c0, h1, h2, χ, h3, h4, h5, h6⟩ := hbk
 rw [hc] at h1
 injection h1 with h1
 injection h1 with h1
 subst h1
 have hpos := (at_iff s).1 (h5 i xs[i] (List.getElem?_eq_getElem hi'))
 have hmd : mdOf none hi hs i j = .own := by unfold mdOf; rw [if_neg (by rw [hh]; simp)]
 have hown : OwnSl σ.R w e' s' ys u (χ i j) := by
  have := hpos.2 j u hu
  rw [Nat.zero_add, hmd, hsl] at this
  exact this
 obtain ⟨χ', hχ'⟩ : ∃ χ' : Nat → Nat → Nat → Prop, χ' = fun i' j' k => χ i' j' k ∧ ¬ (i' = i ∧ j' = j) := ⟨_, rfl⟩
 obtain ⟨q, Fm, cap, hq⟩ : ∃ (q : Nat) (Fm : Nat → Prop) (cap : Nat), (∀ k, Fm k → χ i j k ∧ k ≠ q) ∧ ((ys = [] ∧ ∃ A, u = .slice A 0 0) ∨ (ys ≠ [] ∧ χ i j q ∧ u = .slice (some ⟨q, 0, none⟩) ys.length cap ∧ ys.length ≤ cap ∧ cap ≤ 9223372036854775807 ∧ ∃ c1, w.heap[q]? = some (.cells c1 e' (0, 0)) ∧ cap * s'.ty.sz = c1.size ∧
   ∃ χ1 : Nat → Nat → Nat → Prop, (∀ i j k, χ1 i j k → Fm k) ∧ (∀ i j i' j' k, χ1 i j k → χ1 i' j' k → i = i' ∧ j = j') ∧ ∀ (i : Nat) (y : s'.ty.El), ys[i]? = some y → s'.At σ.R w (fun _ => .own) 0 y ((c1.toList.drop (i * s'.ty.sz)).take s'.ty.sz) (χ1 i))) := by
  rcases hown with ⟨h, A, hA⟩ | ⟨hn, q, cap, c1, k1, k2, k3, k4, k5, k6, k7, χ1, k8, k9, k10⟩
  ·exact ⟨0, fun _ => False, 0, fun _ h => h.elim, .inl ⟨h, A, hA⟩⟩
  ·exact ⟨q, fun k => χ i j k ∧ k ≠ q, cap, fun k h => h, .inr ⟨hn, k7, k1, k2, k3, c1, k5, k6, χ1, fun i' j' k h => k8 i' j' k h, k9, k10⟩⟩
 obtain ⟨hF, hq⟩ := hq
 have hx : Ext σ w ⟨fun k => if k = m then q else σ.ι k, fun k => σ.D k ∨ k = m, σ.R, fun k z => if k = m then Fm z else if k = b then (∃ i' j', χ' i' j' z) else σ.F k z⟩ w :=
  ⟨fun k hk => ⟨.inl hk, by simp only; rw [if_neg (by rintro rfl; exact hm hk)]⟩, fun _ h => h, fun _ _ _ => rfl, fun k c e fr h => ⟨c, fr, h, rfl⟩⟩
 obtain ⟨σ', hσ'⟩ : ∃ σ' : Sg, σ' = ⟨fun k => if k = m then q else σ.ι k, fun k => σ.D k ∨ k = m, σ.R, fun k z => if k = m then Fm z else if k = b then (∃ i' j', χ' i' j' z) else σ.F k z⟩ := ⟨_, rfl⟩
 rw [← hσ'] at hx
 have ιm : σ'.ι m = q := by rw [hσ']; exact if_pos rfl
 have ιb : σ'.ι b = σ.ι b := by rw [hσ']; exact if_neg hbm
 have Fmm : σ'.F m = Fm := by rw [hσ']; funext z; exact if_pos rfl
 have Fbb : σ'.F b = fun z => ∃ i' j', χ' i' j' z := by rw [hσ']; funext z; simp only; rw [if_neg hbm]; simp
 have Rr : σ'.R = σ.R := by rw [hσ']
 have hD : ∀ k, σ'.D k ↔ σ.D k ∨ k = m := fun k => by rw [hσ']
 -- what the new names own lies in what the old one owned
 have sub : ∀ k ∈ [b, m], G' k ≠ .dead → ∀ z, σ'.fp k z → σ.fp b z := fun k hk hd z hz => by
  simp at hk
  rcases hk with rfl | rfl
  ·rcases hz with hz | hz
   ·exact .inl (ιb.symm.trans hz)
   ·rw [Fbb] at hz
    obtain ⟨i', j', hz⟩ := hz
    rw [hχ'] at hz
    exact .inr (h3 _ _ _ hz.1).1
  ·rcases hz with hz | hz
   ·rw [ιm] at hz
    subst hz
    rcases hq with ⟨hy, _⟩ | ⟨_, hq, _⟩
    ·exact absurd (by rw [hGm, hy]; unfold subOf; split <;> rfl) hd
    ·exact .inr (h3 _ _ _ hq).1
   ·rw [Fmm] at hz
    exact .inr (h3 _ _ _ (hF z hz).1).1
 have apart : G' m ≠ .dead → ∀ z, σ'.fp b z → σ'.fp m z → False := fun hd z hz hz' => by
  have hz' : χ i j z := by
   rcases hz' with hz' | hz'
   ·rw [ιm] at hz'
    subst hz'
    rcases hq with ⟨hy, _⟩ | ⟨_, hq, _⟩
    ·exact absurd (by rw [hGm, hy]; unfold subOf; split <;> rfl) hd
    ·exact hq
   ·rw [Fmm] at hz'
    exact (hF z hz').1
  rcases hz with hz | hz
  ·rw [ιb] at hz
   exact (h3 _ _ _ hz').2 hz.symm
  ·rw [Fbb] at hz
   obtain ⟨i', j', hz⟩ := hz
   rw [hχ'] at hz
   exact hz.2 (h4 _ _ _ _ _ hz.1 hz')
 have hcc : CC σ' w (.osl m s'.ty.sz ys.length) u := by
  rcases hq with ⟨hy, A, rfl⟩ | ⟨hy, hq, rfl, k2, k3, c1, k5, k6, _⟩
  ·subst hy; exact CC.osl_zero.2 ⟨A, rfl⟩
  ·refine (CC.osl_pos (fun h0 => hy (List.eq_nil_of_length_eq_zero h0))).2 ⟨(hD m).2 (.inr rfl), s'.ty.sz_pos, cap, c1, e', (0, 0), by rw [ιm, Nat.zero_mul], k2, k3, by rw [ιm]; exact k5, by rw [Nat.zero_add]; exact k6⟩
 refine ⟨σ', ⟨fun k => ?_, hx, Chg.refl _ _, fun k hk hd => ?_, fun k hk hd z hz => .inl ⟨b, by simp, hne, sub k hk hd z hz⟩, fun k hk k' hk' hd hd' z hz hz' => ?_, fun k h => .inl (Rr ▸ h), fun k hk hd z hz hR => hr.outF b hne z (sub k hk hd z hz) (Rr ▸ hR), fun k hk => hr.rlt k (Rr ▸ hk), fun k hk hd z hz => ?_, fun k hD hk => ?_⟩, hcc⟩
 ·rw [hD]
  simp only [List.mem_cons, List.not_mem_nil, or_false]
  constructor
  ·rintro (h | h)
   ·exact .inl h
   ·exact .inr (.inr h)
  ·rintro (h | rfl | h)
   ·exact .inl h
   ·exact .inl (hr.dom k hne)
   ·exact .inr h
 ·simp at hk
  rcases hk with rfl | rfl
  ·rw [hGb, ιb, Fbb]
   refine ⟨c, hc, h2, χ', fun i' j' z hz => ⟨⟨i', j', hz⟩, ?_⟩, fun i1 j1 i2 j2 z a1 a2 => ?_, fun i' y hy => ?_, fun j' v y e2 s2 ys2 hv hy hsl' => ?_⟩
   ·rw [hχ'] at hz; exact (h3 _ _ _ hz.1).2
   ·rw [hχ'] at a1 a2; exact h4 _ _ _ _ _ a1.1 a2.1
   ·rw [Rr]
    by_cases hii : i' = i
    ·subst hii
     obtain rfl : xs[i'] = y := by rw [List.getElem?_eq_getElem hi'] at hy; injection hy
     refine (at_iff (σ := σ) s).2 ⟨hpos.1, fun p v hv => ?_⟩
     rw [Nat.zero_add]
     by_cases hp : p = j
     ·subst hp
      have hmd' : mdOf none i' (holePut hs p (.osl m s'.ty.sz ys.length)) i' p = .apart := by unfold mdOf; rw [if_pos ⟨rfl, by rw [holeAt_put_self]; rfl⟩]
      rw [hmd', hsl]
      exact (hpos.2 p v hv).one
     ·have h0 := hpos.2 p v hv
      rw [Nat.zero_add] at h0
      have hmd' : mdOf none i' (holePut hs j (.osl m s'.ty.sz ys.length)) i' p = mdOf none hi hs i' p := by
       unfold mdOf
       rw [holeAt_put_other hp]
       rcases hhi with h | h
       ·subst h; simp [holeAt]
       ·rw [h]
      have hψ : χ' i' p = χ i' p := by rw [hχ']; funext z; simp [hp]
      rw [hmd', hψ]
      exact h0
    ·refine at_congr s (fun p _ => ⟨?_, fun k hk => ?_⟩) (h5 i' y hy)
     ·unfold mdOf
      rw [if_neg (show ¬ (i' = i ∧ _) from fun h => hii h.1)]
      rcases hhi with h | h
      ·subst h; simp [holeAt]
      ·rw [if_neg (show ¬ (i' = hi ∧ _) from fun hq => hii (hq.1.trans h.symm))]
     ·rw [hχ']; exact ⟨hk, fun hq => hii hq.1⟩
   ·obtain rfl : xs[i] = y := by rw [List.getElem?_eq_getElem hi'] at hy; injection hy
    by_cases hp : j' = j
    ·subst hp
     rw [holeAt_put_self] at hv
     injection hv with hv
     subst hv
     exact ⟨u, hu, hcc⟩
    ·rw [holeAt_put_other hp] at hv
     rcases hhi with h | h
     ·subst h; cases hv
     ·subst h
      obtain ⟨u', hu', hc'⟩ := h6 j' v _ _ _ _ hv (List.getElem?_eq_getElem hi') hsl'
      exact ⟨u', hu', hc'.ext hx⟩
  ·rw [hGm, ιm, Fmm]
   rcases hq with ⟨hy, _⟩ | ⟨hy, hq, _, k2, k3, c1, k5, k6, χ1, k8, k9, k10⟩
   ·subst hy; unfold subOf; split <;> trivial
   ·unfold subOf
    have hsz : ys.length * s'.ty.sz ≤ c1.size := by rw [← k6]; exact Nat.mul_le_mul_right _ k2
    split
    ·rename_i hfl
     rw [nrm_ovec hy]
     refine ⟨c1, k5, hsz, fun i y hi => ?_⟩
     rw [Rr]
     exact flat_rd s' hfl (k10 i y hi)
    ·rw [nrm_nest hy]
     refine ⟨c1, k5, hsz, χ1, fun i j k h => ⟨k8 i j k h, (hF k (k8 i j k h)).2⟩, k9, fun i y hi => ?_, fun j v y _ _ _ hv => by cases hv⟩
     rw [Rr]
     refine at_congr s' (fun p _ => ⟨?_, fun _ h => h⟩) (k10 i y hi)
     simp [mdOf, holeAt]
 ·simp at hk hk'
  rcases hk with rfl | rfl <;> rcases hk' with rfl | rfl
  ·rfl
  ·exact (apart hd' z hz hz').elim
  ·exact (apart hd z hz' hz).elim
  ·rfl
 ·simp at hk
  have : σ.F b z := by
   rcases hk with rfl | rfl
   ·rw [Fbb] at hz
    obtain ⟨i', j', hz⟩ := hz
    rw [hχ'] at hz
    exact (h3 _ _ _ hz.1).1
   ·rw [Fmm] at hz
    exact (h3 _ _ _ (hF z hz).1).1
  exact hr.flt b hne z this
 ·simp only [List.mem_cons, List.not_mem_nil, or_false, not_or] at hk
  rw [hσ']
  funext z
  simp only
  rw [if_neg hk.2, if_neg hk.1]
theorem ok_loadN {t : TypeId} {x : Operand} (ho : o.op = .load t x) (hG : Good P S Q (aLoadN P t (ev env x) H K)) : ∃ v H' rd wr, Good P S Q (K v H' rd wr) ∧ Acts P o env H v H' rd wr := by
 unfold aLoadN at hG
 split at hG
 case h_2 => exact hG.elim
 rename_i n b sz i j hn hp
 split at hG
 case h_2 => exact hG.elim
 rename_i e s xs ko hi hs hb
 split at hG
 case isFalse => exact hG.elim
 rename_i hc0
 obtain ⟨rfl, hjn⟩ := hc0
 have pureL : ∀ (L : List CV) (v : AV), asT P t L = some v → i < xs.length → (∀ (σ : Sg) (w : World) (φ : Nat → Prop) (b' : Nat) (c : Array Value), Blk σ w b' φ (.nest e s xs ko hi hs) → w.heap[b']? = some (.cells c e (0, 0)) → xs.length * s.ty.sz ≤ c.size → CCs σ w L ((((c.toList.drop (i * s.ty.sz)).take s.ty.sz).drop j).take n)) → Acts P o env H v H [b] [] := fun L v hv hi' hL => .pure fun σ G a w hx hg hr => by
  have hax := hx x (by rw [ho]; simp [Op.operands])
  rw [hp] at hax
  obtain ⟨hD, hax⟩ := hax
  have hgb : G b = .nest e s xs ko hi hs := by rw [hg b (by simp)]; exact gv_nest hb (by rintro rfl; exact absurd hi' (Nat.not_lt_zero _))
  have hbk := hr.blk b (by rw [hgb]; simp)
  rw [hgb] at hbk
  obtain ⟨c, hc, hcl, _⟩ := id hbk
  obtain ⟨y, hy, hv'⟩ := load_el (P := P) (σ := σ) hn hv hc (by have := elem_le hi' hcl; simpa using this) hjn (hL σ w _ _ c hbk hc hcl)
  refine ⟨y, ?_, hv'⟩
  simp only [execOp, ho, Instr.loadAt, hax, Instr.sureAddr]
  simp [hy]
 split at hG
 ·rename_i k o'
  split at hG
  case isFalse => exact hG.elim
  rename_i hc1
  obtain ⟨rfl, hs0⟩ := hc1
  obtain rfl : hs = [] := by simpa using hs0
  obtain ⟨⟨hi', hk⟩, hG⟩ := hG
  split at hG
  case h_2 => exact hG.elim
  rename_i v hv
  refine ⟨_, _, _, _, hG, pureL _ v hv hi' fun σ w φ b' c hB hc hcl => ?_⟩
  obtain ⟨χ, hpos⟩ := nest_cells hB hi' hc
  rw [getD_el _ hi']
  have hrd : s.ty.rd.K σ.R w xs[i] ((c.toList.drop (i * s.ty.sz)).take s.ty.sz) := rd_of_pos s (ψ := χ) (el_len hi' hcl) fun p v hv => by
   have := hpos p v hv
   have hmd : mdOf (some (k, 0)) hi [] i p = .ro := by
    unfold mdOf
    rw [if_neg (by simp [holeAt])]
    simp only
    rw [if_neg (by omega)]
   rwa [hmd] at this
  exact ((rd_enc (σ := σ) s.ty hrd).dp j).tk n
 ·split at hG
  ·rename_i hn1
   subst hn1
   split at hG
   ·rename_i cv hsl
    obtain ⟨hi', hG⟩ := hG
    split at hG
    case h_2 => exact hG.elim
    rename_i v hv
    refine ⟨_, _, _, _, hG, pureL _ v hv hi' fun σ w φ b' c hB hc hcl => ?_⟩
    obtain ⟨χ, hpos⟩ := nest_cells hB hi' hc
    have hj : j < ((c.toList.drop (i * s.ty.sz)).take s.ty.sz).length := by rw [el_len hi' hcl]; omega
    have := hpos j _ (List.getElem?_eq_getElem hj)
    rw [getD_el _ hi'] at hsl
    rw [hsl] at this
    rw [one_drop (List.getElem?_eq_getElem hj)]
    exact .cons this .nil
   ·rename_i e' s' ys hsl
    split at hG
    ·rename_i c1 hh
     obtain ⟨⟨hi', hhi⟩, hG⟩ := hG
     split at hG
     case h_2 => exact hG.elim
     rename_i v hv
     refine ⟨_, _, _, _, hG, pureL _ v hv hi' fun σ w φ b' c hB hc hcl => ?_⟩
     obtain ⟨c', q1, _, _, _, _, _, h6⟩ := hB
     rw [hc] at q1
     injection q1 with q1
     injection q1 with q1
     subst q1
     rw [getD_el _ hi'] at hsl
     subst hhi
     obtain ⟨u, hu, hcu⟩ := h6 j c1 _ _ _ _ hh (List.getElem?_eq_getElem hi') hsl
     rw [one_drop hu]
     exact .cons hcu .nil
    ·rename_i hh
     split at hG
     case isFalse => exact hG.elim
     rename_i hag
     obtain ⟨⟨hi', hhi⟩, hG⟩ := hG
     rw [getD_el _ hi'] at hsl
     have hhi : hs = [] ∨ i = hi := hhi.imp (fun h => by simpa using h) id
     have hbl := lt_of_get hb
     have hxe : xs ≠ [] := by rintro rfl; exact absurd hi' (Nat.not_lt_zero _)
     have gB : gv (H.set b (.nest e s xs none i (holePut hs j (.osl H.length s'.ty.sz ys.length))) ++ [subOf e' s' ys]) b = .nest e s xs none i (holePut hs j (.osl H.length s'.ty.sz ys.length)) := by
      rw [gv_push_off (H := H.set b _) _ (by simp; omega), gv_set hbl]
      exact nrm_nest hxe
     have gN : gv (H.set b (.nest e s xs none i (holePut hs j (.osl H.length s'.ty.sz ys.length))) ++ [subOf e' s' ys]) H.length = nrm (subOf e' s' ys) := by
      have := gv_push_new (H := H.set b (.nest e s xs none i (holePut hs j (.osl H.length s'.ty.sz ys.length)))) (subOf e' s' ys)
      rwa [List.length_set] at this
     refine ⟨_, _, _, _, hG, by simp, fun k hk => by simp at hk ⊢; omega, fun k hk => ?_, fun σ G a w hx hg hD hr => ?_⟩
     ·simp at hk
      rw [gv_push_off (H := H.set b _) _ (by simp; exact hk.2)]
      exact gv_set_off (by simp; exact hk.1)
     ·have hax := hx x (by rw [ho]; simp [Op.operands])
      rw [hp] at hax
      obtain ⟨_, hax⟩ := hax
      have hgb : G b = .nest e s xs none hi hs := by rw [hg b (.inr (by simp))]; exact gv_nest hb hxe
      have hbk := hr.blk b (by rw [hgb]; simp)
      rw [hgb] at hbk
      obtain ⟨c, hc, hcl, _⟩ := id hbk
      have hj : j < ((c.toList.drop (i * s.ty.sz)).take s.ty.sz).length := by rw [el_len hi' hcl]; omega
      obtain ⟨u, hu⟩ : ∃ u, ((c.toList.drop (i * s.ty.sz)).take s.ty.sz)[j]? = some u := ⟨_, List.getElem?_eq_getElem hj⟩
      obtain ⟨σ', hst, hcc⟩ := focus_stp (m := H.length) (G' := gv (H.set b (.nest e s xs none i (holePut hs j (.osl H.length s'.ty.sz ys.length))) ++ [subOf e' s' ys])) hr hgb hi' hsl hh hhi (hD H.length (by simp) (Nat.le_refl _)) (by omega) gB gN hc hu
      refine .value ?_ ⟨σ', hst, hcc⟩
      have hcell : w.cell? ⟨σ.ι b, i * s.ty.sz + j, none⟩ = some u := by
       rw [cell_row hc]
       have := hu
       rw [List.getElem?_take] at this
       split at this
       ·rw [List.getElem?_drop] at this; exact this
       ·cases this
      simp only [execOp, ho, Instr.loadAt, hax, Instr.sureAddr]
      simp [run_loadVar_one hag hcell]
   ·exact hG.elim
  ·obtain ⟨hi', hG⟩ := hG
   split at hG
   case h_2 => exact hG.elim
   rename_i v hv
   refine ⟨_, _, _, _, hG, pureL _ v hv hi' fun σ w φ b' c hB hc hcl => ?_⟩
   obtain ⟨χ, hpos⟩ := nest_cells hB hi' hc
   rw [getD_el _ hi']
   exact cellsN_ok hpos n j (by rw [el_len hi' hcl]; omega)
theorem Acts.storeN {t : TypeId} {x y : Operand} {n b s i j : Nat} {a1 : A1} {ab ab0 ab' : AB} (ho : o.op = .store t x y) (hn : szT P t = some n) (hl : a1.cells.length = n) (hp : ev env x = .c (.ptr b s i j)) (hv : ev env y = .one a1) (hb : H[b]? = some ab0) (hn0 : nrm ab0 = ab) (hd : ab ≠ .dead)
  (hB : ∀ (σ : Sg) (w : World), Blk σ w (σ.ι b) (σ.F b) ab → ∃ c e, w.heap[σ.ι b]? = some (.cells c e (0, 0)) ∧ i * s + j + n ≤ c.size ∧ ∀ (σ' : Sg) (w' : World) (c' : Array Value) (vs : List Value), Ext σ w σ' w' → (∀ k, σ.F b k → k ≠ σ.ι b → w'.heap[k]? = w.heap[k]?) → w'.heap[σ.ι b]? = some (.cells c' e (0, 0)) → CCs σ' w' a1.cells vs → c'.toList = c.toList.take (i * s + j) ++ vs ++ c.toList.drop (i * s + j + vs.length) → Blk σ' w' (σ.ι b) (σ.F b) ab') :
  Acts P o env H .junk (H.set b ab') [] [b] where
 len := by simp
 lt := fun k hk => by
  obtain rfl : k = b := by simpa using hk
  simpa using lt_of_get hb
 off := fun k hk => gv_set_off hk
 act := fun σ G a w hx hg hD hr => by
  have hax := hx x (by rw [ho]; simp [Op.operands])
  have hay := hx y (by rw [ho]; simp [Op.operands])
  rw [hp] at hax
  rw [hv] at hay
  obtain ⟨_, hax⟩ := hax
  have hgb : G b = ab := by rw [hg b (by simp)]; exact (gv_some hb).trans hn0
  have hne : G b ≠ .dead := by rw [hgb]; exact hd
  have hbk := hr.blk b hne
  rw [hgb] at hbk
  obtain ⟨c, e, hc, hle, hnew⟩ := hB σ w hbk
  have hcs := CA1.cells hay
  have hlen : (a.eval y).cells.toList.length = n := by rw [← hcs.1, hl]
  obtain ⟨w', hrun, hch, c', hc', hs, hl'⟩ := run_storeCells (P := P) (w := w) (b := σ.ι b) (e := e) (a.eval y).cells.toList c (i * s + j) 0 w hc (by omega) (fun v hv => by
   obtain ⟨k, hk, rfl⟩ := List.mem_iff_getElem.1 hv
   exact CC.one (hcs.2 k (a1.cells[k]'(by rw [hcs.1]; exact hk)) _ (List.getElem?_eq_getElem _) (List.getElem?_eq_getElem _)))
  refine .skip ?_ ⟨σ, Stp.store (G' := gv (H.set b ab')) hr hne hc hch hc' hs (fun σ' hx' => ?_), trivial⟩
  ·simp only [execOp, ho, Instr.storeAt, hax, Instr.sureAddr]
   have hsz : (a.eval y).cells.size = n := by simpa using hlen
   simp [storeVar, run_sizeOf_of hn, hsz, hrun]
  ·rw [gv_set (lt_of_get hb)]
   exact (hnew σ' w' c' _ hx' (fun k hk hne' => hch.block k (hr.flt b hne k hk).lt hne') hc' (hcs.ext hx') (by simpa using hl')).nrm
theorem ok_storeN {t : TypeId} {x y : Operand} (ho : o.op = .store t x y) (hG : Good P S Q (aStoreN P t (ev env x) (ev env y) H K)) : ∃ v H' rd wr, Good P S Q (K v H' rd wr) ∧ Acts P o env H v H' rd wr := by
 unfold aStoreN at hG
 split at hG
 case h_2 => exact hG.elim
 rename_i n b sz i j a1 hn hp hv
 split at hG
 case h_2 => exact hG.elim
 rename_i e s xs ko hi hs hb
 split at hG
 case isFalse => exact hG.elim
 rename_i hc0
 obtain ⟨hl, rfl, hjn⟩ := hc0
 have main : ∀ (z : s.ty.El) (hs' : List (Nat × CV)) (ch : Bool) (hi2 : Nat), putN s (xs.getD i s.ty.dflt) hs j a1.cells false = some (z, hs', ch) → i < xs.length → (ch = true → (hs = [] ∨ i = hi) ∧ hi2 = i) → (ch = false → hi2 = hi) → Acts P o env H .junk (H.set b (.nest e s (xs.set i z) ko hi2 hs')) [] [b] := fun z hs' ch hi2 hz hi' h1 h2 => by
  have hxe : xs ≠ [] := by rintro rfl; exact absurd hi' (Nat.not_lt_zero _)
  refine Acts.storeN (ab := .nest e s xs ko hi hs) ho hn hl hp hv hb (nrm_nest hxe) (by simp) fun σ w hB => ?_
  obtain ⟨c, hc, hcl, χ, h3, h4, h5, h6⟩ := hB
  have hle := elem_le hi' hcl
  refine ⟨c, e, hc, by omega, fun σ' w' c' vs hx hin hc' hvs hl' => ?_⟩
  have hvl : vs.length = n := by rw [← hvs.1, hl]
  have hsz' : c'.size = c.size := by
   have := congrArg List.length hl'
   simp at this
   omega
  have hkeep : ∀ i' j' k, χ i' j' k → w'.heap[k]? = w.heap[k]? := fun i' j' k hk => hin k (h3 i' j' k hk).1 (h3 i' j' k hk).2
  have hold := fun i' y hy => at_ext hx s (fun j' k hk => hkeep i' j' k hk) (h5 i' y hy)
  obtain ⟨cs, hcs⟩ : ∃ cs, cs = (c.toList.drop (i * s.ty.sz)).take s.ty.sz := ⟨_, rfl⟩
  have hcsl : cs.length = s.ty.sz := by rw [hcs]; exact el_len hi' hcl
  -- the element's cells behind it
  have hnewc : (c'.toList.drop (i * s.ty.sz)).take s.ty.sz = cs.take j ++ vs ++ cs.drop (j + vs.length) := by
   rw [hl', splice_in c.toList vs (i * s.ty.sz) s.ty.sz j (by omega) (by simp; omega), ← hcs]
   rw [List.take_of_length_le]
   simp only [List.length_append, List.length_take, List.length_drop]
   omega
  have hoffc : ∀ k, k ≠ i → k < xs.length → (c'.toList.drop (k * s.ty.sz)).take s.ty.sz = (c.toList.drop (k * s.ty.sz)).take s.ty.sz := fun k hki hk => by
   rw [hl']
   refine splice_off c.toList vs (i * s.ty.sz) (k * s.ty.sz) s.ty.sz j (by omega) (by simp; omega) ?_
   rcases Nat.lt_or_gt_of_ne hki with h | h
   ·left
    have := Nat.mul_le_mul_right s.ty.sz (show k + 1 ≤ i from h)
    rw [Nat.succ_mul] at this
    exact this
   ·right
    have := Nat.mul_le_mul_right s.ty.sz (show i + 1 ≤ k from h)
    rw [Nat.succ_mul] at this
    exact this
  rw [getD_el _ hi'] at hz
  have hpos := (at_iff (σ := σ') s).1 (hold i xs[i] (List.getElem?_eq_getElem hi'))
  rw [← hcs] at hpos
  obtain ⟨base, hbase⟩ : ∃ base : Nat → Md, base = fun p => mdOf ko hi [] i p := ⟨_, rfl⟩
  have hot0 : ∀ p, mdOf ko hi hs i p = if i = hi ∧ (holeAt hs p).isSome = true then .apart else base p := fun p => by
   rw [hbase]
   unfold mdOf
   split
   ·rfl
   ·simp [holeAt]
  have hel : ElOk σ' w' s base (i = hi2) hs xs[i] cs (χ i) := by
   refine ⟨hcsl, fun p v hv m m1 m2 => ?_, fun hh p q e' s' ys hq hsl => ?_⟩
   ·have h0 := hpos.2 p v hv
    rw [Nat.zero_add, hot0] at h0
    have hm : m = if i = hi ∧ (holeAt hs p).isSome = true then .apart else base p := by
     cases ch with
     | false =>
      rw [h2 rfl] at m1 m2
      split
      ·rename_i hq; exact m1 hq.1 hq.2
      ·rename_i hq; exact m2 hq
     | true =>
      obtain ⟨ha, hb2⟩ := h1 rfl
      rcases ha with ha | ha
      ·rw [ha] at m2 ⊢
       rw [if_neg (by simp [holeAt])]
       exact m2 (by simp [holeAt])
      ·rw [hb2] at m1 m2
       split
       ·rename_i hq; exact m1 rfl hq.2
       ·rename_i hq; exact m2 (fun hz => hq ⟨ha, hz.2⟩)
    rw [hm]; exact h0
   ·have hih : i = hi ∨ hs = [] := by
     cases ch with
     | false => exact .inl (hh.trans (h2 rfl))
     | true => exact (h1 rfl).1.symm
    rcases hih with hih | hih
    ·subst hih
     obtain ⟨u, hu, hcu⟩ := h6 p q _ _ _ _ hq (List.getElem?_eq_getElem hi') hsl
     rw [← hcs] at hu
     exact ⟨u, hu, hcu.ext hx⟩
    ·subst hih; cases hq
  obtain ⟨hq1, hq2⟩ := putN_ok a1.cells vs xs[i] z hs hs' j false ch cs hz (fun h => (h1 h).2.symm) hvs hel (by rw [hl, hcsl]; exact hjn)
  rw [← hnewc] at hq1
  refine ⟨c', hc', by rw [List.length_set, hsz']; exact hcl, χ, h3, h4, fun k y hk => ?_, fun p v y e' s' ys hv hk hsl => ?_⟩
  ·by_cases hki : k = i
   ·subst hki
    rw [List.getElem?_set_self hi'] at hk
    injection hk with hk
    subst hk
    refine (at_iff (σ := σ') s).2 ⟨hq1.len, fun p v hv => ?_⟩
    rw [Nat.zero_add]
    refine hq1.pos p v hv _ (fun ha hb2 => ?_) (fun ha => ?_)
    ·unfold mdOf; rw [if_pos ⟨ha, hb2⟩]
    ·unfold mdOf
     rw [if_neg ha, hbase]
     simp [mdOf, holeAt]
   ·rw [List.getElem?_set_ne (Ne.symm hki)] at hk
    have hkl := (List.getElem?_eq_some_iff.1 hk).1
    rw [hoffc k hki hkl]
    refine at_congr s (fun p _ => ⟨?_, fun _ h => h⟩) (hold k y hk)
    cases ch with
    | false => rw [h2 rfl, hq2 rfl]
    | true =>
     obtain ⟨ha, hb2⟩ := h1 rfl
     unfold mdOf
     rw [hb2, if_neg (show ¬ (k = i ∧ _) from fun h => hki h.1)]
     rcases ha with ha | ha
     ·rw [ha]; simp [holeAt]
     ·rw [if_neg (show ¬ (k = hi ∧ _) from fun h => hki (h.1.trans ha.symm))]
  ·by_cases hki : hi2 = i
   ·rw [hki, List.getElem?_set_self hi'] at hk
    injection hk with hk
    subst hk
    rw [hki]
    exact hq1.hole hki.symm p v e' s' ys hv hsl
   ·have hcf : ch = false := by cases ch with
     | false => rfl
     | true => exact absurd (h1 rfl).2 hki
    rw [List.getElem?_set_ne (fun h => hki h.symm)] at hk
    rw [hq2 hcf] at hv
    have e2 := h2 hcf
    rw [e2] at hk hki ⊢
    obtain ⟨u, hu, hcu⟩ := h6 p v y e' s' ys hv hk hsl
    rw [hoffc hi hki (List.getElem?_eq_some_iff.1 hk).1]
    exact ⟨u, hu, hcu.ext hx⟩
 split at hG
 ·rename_i z hs' hz
  obtain ⟨⟨hi', hhi⟩, hG⟩ := hG
  exact ⟨_, _, _, _, hG, main z hs' true i hz hi' (fun _ => ⟨hhi.imp (fun h => by simpa using h) id, rfl⟩) (fun h => by cases h)⟩
 ·rename_i z hs' hz
  obtain ⟨hi', hG⟩ := hG
  have e : hs' = hs := putN_same s _ _ _ _ _ _ _ hz
  rw [e] at hz
  exact ⟨_, _, _, _, hG, main z hs false hi hz hi' (fun h => by cases h) (fun _ => rfl)⟩
 ·exact hG.elim
theorem dec_app (t : Ty) (q : List CV) : ∀ {cs r : List CV} {x : t.El}, t.dec cs = some (x, r) → t.dec (cs ++ q) = some (x, r ++ q) := by
 induction t with
 | pair a b iha ihb =>
  intro cs r x h
  simp only [Ty.dec] at h ⊢
  split at h
  ·rename_i x1 r1 h1
   split at h
   ·rename_i x2 r2 h2
    injection h with h
    injection h with e1 e2
    subst e1; subst e2
    rw [iha h1]
    simp only
    rw [ihb h2]
   ·cases h
  ·cases h
 | int k =>
  intro cs r x h
  match cs, h with
  | .int k' n :: cs', h =>
   simp only [Ty.dec, List.cons_append] at h ⊢
   split at h
   ·rename_i hk
    rw [if_pos hk]
    injection h with h
    injection h with h1 h2
    rw [h1, h2]
   ·cases h
 | bool =>
  intro cs r x h
  match cs, h with
  | .bool b :: cs', h =>
   simp only [Ty.dec, List.cons_append] at h ⊢
   injection h with h
   injection h with h1 h2
   rw [h1, h2]
  | .lit b :: cs', h =>
   simp only [Ty.dec, List.cons_append] at h ⊢
   injection h with h
   injection h with h1 h2
   rw [h1, h2]
 | str =>
  intro cs r x h
  match cs, h with
  | .str b :: cs', h =>
   simp only [Ty.dec, List.cons_append] at h ⊢
   injection h with h
   injection h with h1 h2
   rw [h1, h2]
 | slice e _ =>
  intro cs r x h
  match cs, h with
  | .ro e' xs :: cs', h =>
   simp only [Ty.dec, List.cons_append] at h ⊢
   split at h
   ·rename_i he
    rw [dif_pos he]
    injection h with h
    injection h with h1 h2
    rw [h1, h2]
   ·cases h
  | .nilsl :: cs', h =>
   simp only [Ty.dec, List.cons_append] at h ⊢
   injection h with h
   injection h with h1 h2
   rw [h1, h2]
theorem dec_rest (t : Ty) : ∀ {cs r : List CV} {x : t.El}, t.dec cs = some (x, r) → r = cs.drop t.sz ∧ t.dec (cs.take t.sz) = some (x, []) := by
 induction t with
 | int k =>
  intro cs r x h
  match cs, h with
  | .int k' n :: cs', h =>
   simp only [Ty.dec] at h
   split at h
   ·rename_i hk
    injection h with h
    injection h with h1 h2
    subst h1; subst h2
    refine ⟨rfl, ?_⟩
    show (if _ then _ else _) = _
    rw [if_pos hk]; rfl
   ·cases h
 | bool =>
  intro cs r x h
  match cs, h with
  | .bool b :: cs', h =>
   simp only [Ty.dec] at h
   injection h with h
   injection h with h1 h2
   subst h1; subst h2
   exact ⟨rfl, rfl⟩
  | .lit b :: cs', h =>
   simp only [Ty.dec] at h
   injection h with h
   injection h with h1 h2
   subst h1; subst h2
   exact ⟨rfl, rfl⟩
 | str =>
  intro cs r x h
  match cs, h with
  | .str b :: cs', h =>
   simp only [Ty.dec] at h
   injection h with h
   injection h with h1 h2
   subst h1; subst h2
   exact ⟨rfl, rfl⟩
 | pair a b iha ihb =>
  intro cs r x h
  simp only [Ty.dec] at h
  split at h
  ·rename_i x1 r1 h1
   split at h
   ·rename_i x2 r2 h2
    injection h with h
    injection h with e1 e2
    subst e1; subst e2
    obtain ⟨k1, k2⟩ := iha h1
    obtain ⟨k3, k4⟩ := ihb h2
    refine ⟨by rw [k3, k1, List.drop_drop]; rfl, ?_⟩
    have e1 : a.dec (cs.take (a.sz + b.sz)) = some (x1, (cs.drop a.sz).take b.sz) := by
     rw [List.take_add]
     have := dec_app a ((cs.drop a.sz).take b.sz) k2
     rwa [List.nil_append] at this
    show (match a.dec (cs.take (a.sz + b.sz)) with
     | some (x, r) => match b.dec r with
      | some (y, r') => some ((x, y), r')
      | none => none
     | none => none) = _
    rw [e1]
    rw [← k1]
    simp only [k4]
   ·cases h
  ·cases h
 | slice e _ =>
  intro cs r x h
  match cs, h with
  | .ro e' xs :: cs', h =>
   simp only [Ty.dec] at h
   split at h
   ·rename_i he
    injection h with h
    injection h with h1 h2
    subst h1; subst h2
    refine ⟨rfl, ?_⟩
    show (if h : _ then _ else _) = _
    rw [dif_pos he]; rfl
   ·cases h
  | .nilsl :: cs', h =>
   simp only [Ty.dec] at h
   injection h with h
   injection h with h1 h2
   subst h1; subst h2
   exact ⟨rfl, rfl⟩
theorem at_of_nil {σ : Sg} {w : World} (s : Sk) : ∀ {md : Nat → Md} {o : Nat} {cs r : List CV} {vs : List Value} {y : s.ty.El} {ψ : Nat → Nat → Prop}, (∀ j, md j = .own) → s.nilCs cs = true → s.ty.dec cs = some (y, r) → CCs σ w cs vs → s.At σ.R w md o y (vs.take s.ty.sz) ψ := by
 induction s with
 | pair a b iha ihb =>
  intro md o cs r vs y ψ hm hn hd hc
  simp only [Sk.nilCs, Bool.and_eq_true] at hn
  have hd' : (Ty.pair a.ty b.ty).dec cs = some (y, r) := hd
  simp only [Ty.dec] at hd'
  split at hd'
  ·rename_i x1 r1 h1
   split at hd'
   ·rename_i x2 r2 h2
    injection hd' with hd'
    injection hd' with e1 e2
    subst e1
    have hr1 : r1 = cs.drop a.ty.sz := (dec_rest a.ty h1).1
    subst hr1
    have h1' : a.ty.dec (cs.take a.ty.sz) = some (x1, []) := (dec_rest a.ty h1).2
    refine ⟨?_, ?_⟩
    ·have := iha (md := md) (o := o) (ψ := ψ) hm hn.1 h1' (hc.tk a.ty.sz)
     rw [List.take_take] at this ⊢
     rw [show min a.ty.sz (Sk.pair a b).ty.sz = a.ty.sz from Nat.min_eq_left (Nat.le_add_right _ _)]
     rwa [Nat.min_self] at this
    ·have := ihb (md := md) (o := o + a.ty.sz) (ψ := ψ) hm hn.2 h2 (hc.dp a.ty.sz)
     have e : (vs.take (Sk.pair a b).ty.sz).drop a.ty.sz = (vs.drop a.ty.sz).take b.ty.sz := by
      show (vs.take (a.ty.sz + b.ty.sz)).drop a.ty.sz = _
      rw [List.drop_take, Nat.add_sub_cancel_left]
     rw [e]; exact this
   ·cases hd'
  ·cases hd'
 | slice e s _ =>
  intro md o cs r vs y ψ hm hn hd hc
  match cs, hn with
  | c :: cs', hn =>
   have hn : c.nilS = true := hn
   cases c <;> first | (cases hn; done) | skip
   obtain ⟨v, r', rfl, hv, _⟩ := hc.cons_of
   have hd : some (([] : List s.ty.El), cs') = some (y, r) := hd
   injection hd with hd
   injection hd with h1 _
   subst h1
   have hv : v = .slice none 0 0 := hv
   subst hv
   refine ⟨_, rfl, ?_⟩
   rw [hm]
   exact .inl ⟨rfl, none, rfl⟩
 | int k =>
  intro md o cs r vs y ψ hm hn hd hc
  exact (dec_rd (σ := σ) (w := w) (Ty.int k) hd hc).1
 | bool =>
  intro md o cs r vs y ψ hm hn hd hc
  exact (dec_rd (σ := σ) (w := w) Ty.bool hd hc).1
 | str =>
  intro md o cs r vs y ψ hm hn hd hc
  exact (dec_rd (σ := σ) (w := w) Ty.str hd hc).1
 | ro e =>
  intro md o cs r vs y ψ hm hn hd hc
  exact (dec_rd (σ := σ) (w := w) (Ty.slice e) hd hc).1
/-- One element more, with nil rows alone. -/
theorem app_nest {t e : TypeId} {ie : TypeInfo} {z : Value} {x y' : Operand} {u : Sk} {xs : List u.ty.El} {y : u.ty.El} {b hi : Nat} (fin : ∀ (a : Act) (w w' : World) (r : Value), (Builtin.append_ #[t, t] o.type #[a.eval x, a.eval y']).run P w = .ok r w' → (execOp a.eval o).run P w = .ok (.value r) w')
  (hu : P.underlying t = some (.slice e)) (hie : P.info? e = some ie) (hz : ie.zero = some z) (hzs : z.cells.size = ie.size) (hb0 : 0 < ie.bytes) (hus : u.ty.sz = ie.size) (hbl : b < H.length) (hbytes : (xs.length + 1) * ie.bytes ≤ 140737488355328)
  {σ : Sg} {G : Nat → AB} {a : Act} {w : World} (hxe : xs ≠ []) (hgb : G b = .nest e u xs none hi []) (hr : RelG σ G w) (hmD : ¬ σ.D H.length) (hax : CC σ w (.sl b u.ty.sz 0 xs.length) (a.eval x))
  {ad : Addr} {c' : Nat} {news : List Value} (hv' : a.eval y' = .slice (some ad) 1 c') (n1 : news.length = u.ty.sz) (n2 : ∀ (j : Nat) (v : Value), news[j]? = some v → w.cell? (ad.add j) = some v) (n3 : ∀ v ∈ news, v.oneCell' = true) (n4 : ∀ (σ' : Sg) (w' : World) (ψ : Nat → Nat → Prop), Ext σ w σ' w' → u.At σ'.R w' (fun _ => .own) 0 y news ψ) :
  OpTo P o a w fun v w' => ∃ σ', Stp σ G w [b, H.length] (gv (H.set b .dead ++ [.nest e u (xs ++ [y]) none 0 []])) σ' w' ∧ CA σ' w' (.c (.sl H.length u.ty.sz 0 (xs.length + 1))) v := by
 have gN : gv (H.set b .dead ++ [AB.nest e u (xs ++ [y]) none 0 []]) H.length = .nest e u (xs ++ [y]) none 0 [] := by
  have := gv_push_new (H := H.set b .dead) (AB.nest e u (xs ++ [y]) none 0 [])
  rw [List.length_set] at this
  exact this.trans (nrm_nest (by simp))
 have gB : gv (H.set b .dead ++ [AB.nest e u (xs ++ [y]) none 0 []]) b = .dead := by
  rw [gv_push_off (H := H.set b .dead) _ (by simp; omega)]
  exact gv_set hbl
 obtain ⟨hDb, hs, cap, c, e2, fr, hv, h3, h4, h5, h6⟩ := hax
 have hnd : G b ≠ .dead := by rw [hgb]; simp
 have hbk := hr.blk b hnd
 rw [hgb] at hbk
 obtain ⟨c2, hc2, hl, χ, x1, x2, x3, _⟩ := hbk
 rw [h5] at hc2
 injection hc2 with hc2
 injection hc2 with q1 q2 q3
 subst q1; subst q3; replace h5 := q2 ▸ h5
 have hsz' : cap * u.ty.sz = c.size := by simpa using h6
 have holen : (c.toList.take (xs.length * u.ty.sz)).length = xs.length * u.ty.sz := by rw [List.length_take]; simp; omega
 have hvx : a.eval x = .slice (some ⟨σ.ι b, 0, none⟩) xs.length cap := by simpa using hv
 have h63 : xs.length + 1 ≤ 140737488355328 := Nat.le_trans (Nat.le_mul_of_pos_right _ hb0) hbytes
 -- the block behind it, wherever it lies
 have newB : ∀ (σ' : Sg) (w' : World) (q : Nat) (cN : Array Value) (rest : List Value), Ext σ w σ' w' → (∀ k, σ.F b k → k ≠ σ.ι b → w'.heap[k]? = w.heap[k]?) → w'.heap[q]? = some (.cells cN e (0, 0)) → (q = σ.ι b ∨ q = w.heap.size) → cN.toList = c.toList.take (xs.length * u.ty.sz) ++ news ++ rest → Blk σ' w' q (σ.F b) (.nest e u (xs ++ [y]) none 0 []) := fun σ' w' q cN rest hx hin hq hqq hcN => by
  have hsize : (xs ++ [y]).length * u.ty.sz ≤ cN.size := by
   have := congrArg List.length hcN
   simp only [Array.length_toList, List.length_append, holen, n1] at this
   rw [this, List.length_append, Nat.add_mul]
   simp only [List.length_cons, List.length_nil]
   omega
  refine ⟨cN, hq, hsize, fun i j k => i < xs.length ∧ χ i j k, fun i j k ⟨_, hk⟩ => ⟨(x1 i j k hk).1, ?_⟩, fun i j i' j' k h h' => x2 i j i' j' k h.2 h'.2, fun i y0 hi0 => ?_, fun j v y0 _ _ _ hv0 => by cases hv0⟩
  ·rcases hqq with rfl | rfl
   ·exact (x1 i j k hk).2
   ·have := (hr.flt b hnd k (x1 i j k hk).1).lt; omega
  ·have hmd : ∀ i, mdOf none 0 [] i = fun _ => .own := fun i => by funext p; simp [mdOf, holeAt]
   rw [hmd]
   rcases Nat.lt_or_ge i xs.length with hlt | hge
   ·rw [List.getElem?_append_left hlt] at hi0
    have hle : i * u.ty.sz + u.ty.sz ≤ (c.toList.take (xs.length * u.ty.sz)).length := by rw [holen, ← Nat.succ_mul]; exact Nat.mul_le_mul_right _ hlt
    have e1 : (cN.toList.drop (i * u.ty.sz)).take u.ty.sz = (c.toList.drop (i * u.ty.sz)).take u.ty.sz := by
     rw [hcN, List.append_assoc, List.drop_append_of_le_length (by omega), List.take_append_of_le_length (by rw [List.length_drop]; omega), tdt _ _ _ _ (by rw [holen] at hle; exact hle)]
    rw [e1]
    have h0 := x3 i y0 hi0
    have hmd' : mdOf none hi [] i = fun _ => .own := by funext p; simp [mdOf, holeAt]
    rw [hmd'] at h0
    exact at_congr u (fun p _ => ⟨rfl, fun k hk => ⟨hlt, hk⟩⟩) (at_ext hx u (fun j k hk => hin k (x1 i j k hk).1 (x1 i j k hk).2) h0)
   ·rw [List.getElem?_append_right hge] at hi0
    obtain ⟨hi1, rfl⟩ := one_at hi0
    have hi2 : i = xs.length := by omega
    subst hi2
    have e1 : (cN.toList.drop (xs.length * u.ty.sz)).take u.ty.sz = news := by
     have e0 : ∀ (l r : List Value) (n : Nat), l.length = n → (l ++ r).drop n = r := by rintro l r n rfl; exact List.drop_left
     rw [hcN, List.append_assoc, e0 _ _ _ holen, List.take_append_of_le_length (by omega), List.take_of_length_le (by omega)]
    rw [e1]
    exact n4 σ' w' _ hx
 by_cases hroom : xs.length + 1 ≤ cap
 ·have hfit : xs.length * ie.size + news.length ≤ c.size := by
   rw [n1, ← hus, ← hsz', ← Nat.succ_mul]; exact Nat.mul_le_mul_right _ hroom
  have hrun := run_append_room (P := P) w t o.type e ie hu hie (σ.ι b) xs.length cap c h5 ad 1 c' news (by rw [n1, hus, Nat.one_mul]) n2 n3 hroom hfit
  rw [← hus] at hrun hfit
  have hch : Chg (fun i => i = σ.ι b) w (w.setRow (σ.ι b) (c.toList.take (xs.length * u.ty.sz) ++ news ++ c.toList.drop (xs.length * u.ty.sz + news.length)).toArray) := ⟨rfl, rfl, rfl, by simp, fun k _ hk => setRow_other w _ k _ hk⟩
  have hcc := setRow_heap w (σ.ι b) c (c.toList.take (xs.length * u.ty.sz) ++ news ++ c.toList.drop (xs.length * u.ty.sz + news.length)).toArray e _ h5
  have hssz : (c.toList.take (xs.length * u.ty.sz) ++ news ++ c.toList.drop (xs.length * u.ty.sz + news.length)).toArray.size = c.size := by
   simp only [List.size_toArray, List.length_append, holen, List.length_drop, Array.length_toList]; omega
  obtain ⟨σ', hst, i1, i2⟩ := Stp.moved (G' := gv (H.set b .dead ++ [AB.nest e u (xs ++ [y]) none 0 []])) hr hnd hmD h5 hch hcc hssz gB (fun σ' hx' => by
   rw [gN]
   exact newB σ' _ _ _ _ hx' (fun k hk hne => setRow_other w _ k _ hne) hcc (.inl rfl) rfl)
  exact .value (fin a w _ _ (by rw [hvx, hv']; exact hrun)) ⟨σ', hst, i2, hs, cap, _, e, (0, 0), by rw [i1]; simp, hroom, h4, by rw [i1]; exact hcc, by rw [hssz]; simpa using hsz'⟩
 ·have hrun := run_append_grow (P := P) w t o.type e ie z hu hie hz ⟨σ.ι b, 0, none⟩ xs.length cap (c.toList.take (xs.length * u.ty.sz)) (by rw [holen, hus]) (fun j v hj => by
   rw [List.getElem?_take] at hj
   split at hj
   ·rw [add_eq rfl, cell_row h5]; simpa using hj
   ·cases hj) ad 1 c' news (by rw [n1, hus, Nat.one_mul]) n2 (by omega) (by omega) (growslice_fits (by omega) hbytes)
  have hge := grownCap_ge w (xs.length + 1) cap e
  have hle := grownCap_le_maxLen w (xs.length + 1) cap e (by simp only [maxLen]; omega)
  have hbm : b ≠ H.length := by omega
  obtain ⟨σ', hst, i1, i2⟩ := Stp.grown (b := b) (m := H.length) (e := e) (vs := (c.toList.take (xs.length * u.ty.sz)).toArray ++ news.toArray ++ Builtin.zeroCells z.cells (grownCap w (xs.length + 1) cap e - (xs.length + 1))) (w' := w.drew.alloc (.cells ((c.toList.take (xs.length * u.ty.sz)).toArray ++ news.toArray ++ Builtin.zeroCells z.cells (grownCap w (xs.length + 1) cap e - (xs.length + 1))) e)) (G' := gv (H.set b .dead ++ [AB.nest e u (xs ++ [y]) none 0 []])) hr hnd hbm hmD rfl ⟨rfl, rfl, rfl⟩ gB (fun σ' hx' => by
   rw [gN]
   exact newB σ' _ _ _ (Builtin.zeroCells z.cells (grownCap w (xs.length + 1) cap e - (xs.length + 1))).toList hx' (fun k hk _ => Below.heap_alloc w.drew _ k (hr.flt b hnd k hk).lt) (heap_alloc_new w.drew _) (.inr rfl) (by simp))
  refine .value (fin a w _ _ (by rw [hvx, hv']; exact hrun)) ⟨σ', hst, i2, hs, grownCap w (xs.length + 1) cap e, _, e, (0, 0), by rw [i1]; simp, hge, by simpa only [maxLen] using hle, by rw [i1]; exact heap_alloc_new w.drew _, ?_⟩
  simp only [Array.size_append, List.size_toArray, size_zeroCells, hzs, n1, holen, ← hus, Nat.zero_add, ← Nat.add_mul]
  have : xs.length * u.ty.sz + u.ty.sz = (xs.length + 1) * u.ty.sz := (Nat.succ_mul _ _).symm
  rw [this, ← Nat.add_mul]
  congr 1
  omega
theorem ok_appN {c : Call} {t : TypeId} {x y : Operand} (ho : o.op = .call c) (hc : c.callee = .builtin .append) (ht : c.argTypes.toList = [t, t]) (ha : c.args.toList = [x, y]) (hG : Good P S Q (aAppN P t (ev env x) (ev env y) H K)) : ∃ v H' rd wr, Good P S Q (K v H' rd wr) ∧ Acts P o env H v H' rd wr := by
 obtain ⟨callee, args, argTypes⟩ := c
 simp only at hc ha ht
 subst hc
 obtain rfl : args = #[x, y] := by apply Array.toList_inj.1; simpa using ha
 obtain rfl : argTypes = #[t, t] := by apply Array.toList_inj.1; simpa using ht
 have mx : x ∈ o.op.operands := by rw [ho]; simp [Op.operands, Call.operands]
 have my : y ∈ o.op.operands := by rw [ho]; simp [Op.operands, Call.operands]
 have fin : ∀ (a : Act) (w w' : World) (r : Value), (Builtin.append_ #[t, t] o.type #[a.eval x, a.eval y]).run P w = .ok r w' → (execOp a.eval o).run P w = .ok (.value r) w' := fun a w w' r h => by
  simp only [execOp, ho, resolve]
  simp [invoke, builtin, h]
 unfold aAppN at hG
 split at hG
 case h_2 => exact hG.elim
 rename_i e hu
 split at hG
 case h_2 => exact hG.elim
 rename_i ie hie
 split at hG
 case h_2 => exact hG.elim
 rename_i z hz
 split at hG
 case isFalse => exact hG.elim
 rename_i hc
 obtain ⟨hzs, hs0, hb0⟩ := hc
 split at hG
 case h_2 => exact hG.elim
 rename_i b sz n hx0
 split at hG
 case h_2 => exact hG.elim
 rename_i e' u xs hi hs hb
 split at hG
 case isFalse => exact hG.elim
 rename_i hc1
 obtain ⟨rfl, hus, rfl, hse⟩ := hc1
 obtain rfl : hs = [] := by simpa using hse
 split at hG
 case h_2 => exact hG.elim
 rename_i b' sz' hy0
 split at hG
 case h_2 => exact hG.elim
 rename_i e2 cs hb'
 split at hG
 case isFalse => exact hG.elim
 rename_i hc2
 obtain ⟨rfl, hcl, hnil⟩ := hc2
 split at hG
 case h_2 => exact hG.elim
 rename_i y0 hdec
 obtain ⟨⟨rfl, hbytes⟩, hG⟩ := hG
 have hbl : b < H.length := lt_of_get hb
 have gN : gv (H.set b .dead ++ [AB.nest e' u (xs ++ [y0]) none 0 []]) H.length = .nest e' u (xs ++ [y0]) none 0 [] := by
  have := gv_push_new (H := H.set b .dead) (AB.nest e' u (xs ++ [y0]) none 0 [])
  rw [List.length_set] at this
  exact this.trans (nrm_nest (by simp))
 have gB : gv (H.set b .dead ++ [AB.nest e' u (xs ++ [y0]) none 0 []]) b = .dead := by
  rw [gv_push_off (H := H.set b .dead) _ (by simp; omega)]
  exact gv_set hbl
 refine ⟨_, _, _, _, hG, by simp, fun k hk => by simp at hk ⊢; omega, fun k hk => ?_, fun σ G a w hx hg hD hr => ?_⟩
 ·simp at hk
  rw [gv_push_off (H := H.set b .dead) _ (by simp; exact hk.2)]
  exact gv_set_off (by simp; exact hk.1)
 have hax := hx x mx
 rw [hx0] at hax
 have hay := hx y my
 rw [hy0] at hay
 have hmD : ¬ σ.D H.length := hD H.length (by simp) (Nat.le_refl _)
 -- the new element's cells
 obtain ⟨hDy, hsz0, cap, c, e3, fr, hvy, k1, k2, k3, k4⟩ := hay
 have hgy : G b' = .cells e2 cs := by rw [hg b' (.inl (by simp))]; exact gv_of hb'
 have hBy := hr.blk b' (by rw [hgy]; simp)
 rw [hgy] at hBy
 obtain ⟨c0, k5, k6⟩ := hBy
 rw [k3] at k5
 injection k5 with k5
 injection k5 with k5 k7 k8
 subst k5; subst k7; subst k8
 have hcl2 : c.toList.length = u.ty.sz := by rw [← k6.1]; exact hcl
 have hvy' : a.eval y = .slice (some ⟨σ.ι b', 0, none⟩) 1 cap := by simpa using hvy
 have n2 : ∀ (j : Nat) (v : Value), c.toList[j]? = some v → w.cell? ((⟨σ.ι b', 0, none⟩ : Addr).add j) = some v := fun j v hj => by
  rw [add_eq rfl, cell_row k3]; simpa using hj
 have n3 : ∀ v ∈ c.toList, v.oneCell' = true := fun v hv => by
  obtain ⟨j, hj, rfl⟩ := List.mem_iff_getElem.1 hv
  exact CC.one (k6.2 j (cs[j]'(by rw [k6.1]; exact hj)) _ (List.getElem?_eq_getElem _) (List.getElem?_eq_getElem _))
 have n4 : ∀ (σ' : Sg) (w' : World) (ψ : Nat → Nat → Prop), Ext σ w σ' w' → u.At σ'.R w' (fun _ => .own) 0 y0 c.toList ψ := fun σ' w' ψ hx' => by
  have := at_of_nil (σ := σ') (w := w') u (md := fun _ => .own) (o := 0) (ψ := ψ) (fun _ => rfl) hnil hdec (k6.ext hx')
  rwa [List.take_of_length_le (by omega)] at this
 by_cases hxe : xs = []
 ·subst hxe
  obtain ⟨A0, hv⟩ := (CC.osl_zero (σ := σ) (w := w) (b := b) (s := u.ty.sz)).1 hax
  have hfz := Stp.frz (G' := fun _ => .dead) (l := [b]) hr (fun _ _ => rfl)
  have hr1 := hfz.rel hr
  have hb' : 1 * ie.bytes ≤ 140737488355328 := by simpa using hbytes
  have hrun : (Builtin.append_ #[t, t] o.type #[.slice A0 0 0, .slice (some ⟨σ.ι b', 0, none⟩) 1 cap]).run P w = .ok (.slice (some ⟨w.heap.size, 0, none⟩) 1 (grownCap w 1 0 e')) (w.drew.alloc (.cells (c.toList.toArray ++ Builtin.zeroCells z.cells (grownCap w 1 0 e' - 1)) e')) := by
   cases A0 with
   | none => exact run_append_nil (P := P) w t o.type e' ie z hu hie hz ⟨σ.ι b', 0, none⟩ 1 cap c.toList (by rw [hcl2, hus, Nat.one_mul]) n2 (by omega) (by omega) (by omega)
   | some a0 =>
    have := run_append_grow (P := P) w t o.type e' ie z hu hie hz a0 0 0 [] (by simp) (fun j v hj => by simp at hj) ⟨σ.ι b', 0, none⟩ 1 cap c.toList (by rw [hcl2, hus, Nat.one_mul]) n2 (by omega) (by omega) (growslice_fits (by omega) (by simpa using hb'))
    simpa using this
  obtain ⟨σ', hs, i1, i2⟩ := Stp.allocW (w' := w.drew.alloc (.cells (c.toList.toArray ++ Builtin.zeroCells z.cells (grownCap w 1 0 e' - 1)) e')) (G' := gv (H.set b .dead ++ [AB.nest e' u ([] ++ [y0]) none 0 []])) hr1 (m := H.length) (fun hd => hd.elim hmD (fun h => by simp at h; omega)) rfl ⟨rfl, rfl, rfl⟩ (fun σ' hx' => by
   rw [gN]
   refine ⟨_, heap_alloc_new w.drew _, ?_, fun _ _ _ => False, fun _ _ _ h => h.elim, fun _ _ _ _ _ h => h.elim, fun i y1 hi1 => ?_, fun j v y1 _ _ _ hv1 => by cases hv1⟩
   ·simp only [Array.size_append, List.size_toArray, hcl2, List.nil_append, List.length_cons, List.length_nil]
    omega
   ·obtain ⟨rfl, rfl⟩ := one_at hi1
    have hmd : mdOf none 0 [] 0 = fun _ => .own := by funext p; simp [mdOf, holeAt]
    rw [hmd]
    have e1 : (((c.toList.toArray ++ Builtin.zeroCells z.cells (grownCap w 1 0 e' - 1)).toList.drop (0 * u.ty.sz)).take u.ty.sz) = c.toList := by
     rw [Nat.zero_mul, List.drop_zero, Array.toList_append]
     simp only [List.toList_toArray]
     rw [List.take_append_of_le_length (by omega), List.take_of_length_le (by omega)]
    rw [e1]
    exact n4 σ' _ _ (hfz.ext.trans hx'))
  have hge := grownCap_ge w 1 0 e'
  have hle := grownCap_le_maxLen w 1 0 e' (by simp only [maxLen]; omega)
  refine .value (v := .slice (some ⟨w.heap.size, 0, none⟩) 1 (grownCap w 1 0 e')) (fin a w _ _ (by rw [hv, hvy']; exact hrun)) ⟨σ', (Stp.trans hr hfz hs).congr fun k hk => ?_, (CC.osl_pos (σ := σ') (w := w.drew.alloc (.cells (c.toList.toArray ++ Builtin.zeroCells z.cells (grownCap w 1 0 e' - 1)) e')) (b := H.length) (s := u.ty.sz) (n := 1) (v := .slice (some ⟨w.heap.size, 0, none⟩) 1 (grownCap w 1 0 e')) (by omega)).2 ⟨i2, u.ty.sz_pos, grownCap w 1 0 e', _, e', (0, 0), by rw [i1]; simp, by simpa using hge, by simpa only [maxLen] using hle, by rw [i1]; exact heap_alloc_new w.drew _, ?_⟩⟩
  ·simp at hk
   unfold updG
   rcases hk with rfl | rfl
   ·rw [if_neg (by simp; omega), if_pos (by simp), gB]
   ·rw [if_pos (by simp)]
  ·simp only [Array.size_append, List.size_toArray, size_zeroCells, hzs, hcl2, ← hus, Nat.zero_add, ← Nat.add_mul]
   have : u.ty.sz = 1 * u.ty.sz := (Nat.one_mul _).symm
   rw [show u.ty.sz + (grownCap w 1 0 e' - 1) * u.ty.sz = (1 + (grownCap w 1 0 e' - 1)) * u.ty.sz by rw [Nat.add_mul, Nat.one_mul]]
   congr 1
   omega
 ·have hne : xs.length ≠ 0 := fun h0 => hxe (List.eq_nil_of_length_eq_zero h0)
  refine (app_nest (x := x) (y' := y) fin hu hie hz hzs hb0 hus hbl hbytes hxe (by rw [hg b (.inr (by simp))]; exact gv_nest hb hxe) hr hmD ((CC.osl_pos hne).1 hax) hvy' hcl2 n2 n3 n4).mono fun v w' ⟨σ', h1, h2⟩ => ⟨σ', h1, (CC.osl_pos (by simp)).2 (by rw [List.length_append]; exact h2)⟩
end
end Go.Proofs.YtkonkblfckhcbaaGreatDoor
namespace Go.Proofs.YtkonkblfckhcbaaGreatDoor
set_option linter.unusedVariables false
set_option linter.unusedSimpArgs false
open Go.RowKit

section
variable {P : Program} {S : List Item → List AV → List AB → Prop} {Q : AV → List AB → Prop} {oc : Orc} {o : Oper} {env : List AV} {H : List AB} {K : Kont}
/-- Each operation. -/
theorem aOp_ok (hG : Good P S Q (aOp P oc o env H K)) : ∃ v H' rd wr, Good P S Q (K v H' rd wr) ∧ Acts P o env H v H' rd wr := by
 unfold aOp at hG
 split at hG
 ·rename_i x ho; exact ⟨_, _, _, _, hG, ok_move (.inl ho)⟩
 ·rename_i x ho; exact ⟨_, _, _, _, hG, ok_move (.inr ho)⟩
 ·rename_i c x y ho; exact ok_pick ho hG
 ·rename_i t ho
  split at hG
  ·rename_i cs hz; exact ⟨_, _, _, _, hG, ok_alloc ho hz⟩
  ·exact hG.elim
 ·rename_i t x ho
  split at hG
  ·rename_i a1 hv; exact ⟨_, _, _, _, hG, ok_box ho hv⟩
  ·exact hG.elim
 ·rename_i t parts ho; exact ok_build ho hG
 ·rename_i t len parts ho
  obtain ⟨env', l, hG, hlt, he⟩ := frzTs_ok hG
  obtain ⟨v, H', rd, wr, hG, ha⟩ := ok_buildSlice (env := env') ho hG
  exact ⟨_, _, _, _, hG, ha.frz hlt (frzTs_ev he)⟩
 ·rename_i t x ho
  split at hG
  ·exact ok_loadN ho hG
  ·exact ok_load ho hG
 ·rename_i t x y ho
  split at hG
  ·obtain ⟨env', l, hG, hlt, he⟩ := frzTs_ok hG
   obtain ⟨v, H', rd, wr, hG, ha⟩ := ok_store (env := env') ho hG
   exact ⟨_, _, _, _, hG, ha.frz hlt (frzTs_ev he)⟩
  ·split at hG
   ·exact ok_storeN ho hG
   ·exact ok_store ho hG
 ·rename_i x ho
  split at hG
  ·rename_i b s i j hv; exact ⟨_, _, _, _, hG, ok_nilCheck ho hv (.inl ⟨_, _, _, _, rfl⟩)⟩
  ·rename_i e xs i j hv; exact ⟨_, _, _, _, hG, ok_nilCheck ho hv (.inr (.inl ⟨_, _, _, _, rfl⟩))⟩
  ·rename_i f hv; exact ⟨_, _, _, _, hG, ok_nilCheck ho hv (.inr (.inr (.inl ⟨_, rfl⟩)))⟩
  ·rename_i g c hv; exact ⟨_, _, _, _, hG, ok_nilCheck ho hv (.inr (.inr (.inr ⟨_, _, rfl⟩)))⟩
  ·exact hG.elim
 ·rename_i op t x y yt ho; exact ok_bin ho hG
 ·rename_i op t x ho; exact ok_un ho hG
 ·rename_i s d x ho; exact ok_conv ho hG
 ·rename_i f first caps ho
  split at hG
  ·rename_i h0
   split at hG
   ·rename_i g hg; exact ⟨_, _, _, _, hG, ok_makeFunc ho h0 hg⟩
   ·exact hG.elim
  ·exact hG.elim
 ·rename_i t l c ho; exact ok_make ho hG
 ·rename_i t r ho
  split at hG
  ·exact ok_makeMap ho hG
  ·exact hG.elim
 ·rename_i t m x ok ho; exact ok_lookup ho hG
 ·rename_i t m x v ho; exact ok_mapPut ho hG
 ·rename_i t x lo hi mx ho
  split at hG
  ·split at hG
   ·rename_i l h hl hh; exact ok_slice ho hl hh hG
   ·exact hG.elim
  ·exact hG.elim
 ·rename_i t x f ho; exact ok_field ho hG
 ·rename_i t x f ho; exact ok_fieldV ho hG
 ·rename_i t x i ho; exact ok_indexAddr ho hG
 ·rename_i t x i ho; exact ok_index ho hG
 ·rename_i x i ho
  split at hG
  ·rename_i l hv
   split at hG
   ·rename_i a1 hi; exact ⟨_, _, _, _, hG, ok_extract ho hv hi⟩
   ·exact hG.elim
  ·exact hG.elim
 ·rename_i c ho
  split at hG
  ·rename_i f hc
   split at hG
   ·rename_i g hv
    split at hG
    ·rename_i n caps hg; exact ok_call ho hc hv hg hG
    ·exact hG.elim
   ·exact hG.elim
  ·rename_i hc
   split at hG
   ·rename_i t x ht ha; exact ok_len ho hc ht ha hG
   ·exact hG.elim
  ·rename_i hc
   split at hG
   ·rename_i t t' x y ht ha
    split at hG
    ·rename_i htt
     subst htt
     split at hG
     ·exact ok_appN ho hc ht ha hG
     ·exact ok_append ho hc ht ha hG
    ·exact hG.elim
   ·exact hG.elim
  ·rename_i hc
   split at hG
   ·rename_i x y ha
    split at hG
    ·rename_i k a b k' hx hy; exact ok_minmax (.inl ⟨hc, rfl⟩) ho ha hx hy hG
    ·exact hG.elim
   ·exact hG.elim
  ·rename_i hc
   split at hG
   ·rename_i x y ha
    split at hG
    ·rename_i k a b k' hx hy; exact ok_minmax (.inr ⟨hc, rfl⟩) ho ha hx hy hG
    ·exact hG.elim
   ·exact hG.elim
  ·exact hG.elim
 ·exact hG.elim
end
end Go.Proofs.YtkonkblfckhcbaaGreatDoor
namespace Go.Proofs.YtkonkblfckhcbaaGreatDoor
set_option linter.unusedVariables false
set_option linter.unusedSimpArgs false
open Go.RowKit

def fpAll (σ : Sg) (G : Nat → AB) (k : Nat) : Prop := ∃ b, G b ≠ .dead ∧ σ.fp b k
/-- Since the call began. -/
structure Out (σ0 : Sg) (G0 : Nat → AB) (W : World) (σ : Sg) (G : Nat → AB) (w : World) : Prop where
 chg : Chg (fpAll σ0 G0) W w
 ext : Ext σ0 W σ w
 locF : ∀ b, G b ≠ .dead → ∀ k, σ.fp b k → fpAll σ0 G0 k ∨ W.heap.size ≤ k
 R : ∀ k, σ.R k → σ0.R k ∨ W.heap.size ≤ k ∨ fpAll σ0 G0 k
theorem Out.refl {σ : Sg} {G : Nat → AB} {w : World} : Out σ G w σ G w := ⟨Chg.refl _ _, Ext.refl _ _, fun b hb k hk => .inl ⟨b, hb, hk⟩, fun _ h => .inl h⟩
theorem Out.step {σ0 σ σ' : Sg} {G0 G G' : Nat → AB} {W w w' : World} {wr : List Nat} (h : Out σ0 G0 W σ G w) (hr : RelG σ G w) (hs : Stp σ G w wr G' σ' w') : Out σ0 G0 W σ' (updG G wr G') w' where
 chg := h.chg.trans hs.chg fun k hk hf => by
  obtain ⟨b, _, hb, hk'⟩ := hf
  rcases h.locF b hb k hk' with h1 | h1
  ·exact h1
  ·omega
 ext := h.ext.trans hs.ext
 locF := fun b hb k hk => by
  unfold updG at hb
  split at hb
  ·rename_i hm
   rcases hs.locF b hm hb k hk with ⟨c, _, hc, e⟩ | h1
   ·exact h.locF c hc k e
   ·exact .inr (Nat.le_trans h.chg.size h1)
  ·rename_i hm
   exact h.locF b hb k ((hs.fp_eq (hr.dom b hb) hm k).1 hk)
 R := fun k hk => by
  rcases hs.Rnew k hk with h1 | h1 | ⟨c, _, hc, hk'⟩
  ·exact h.R k h1
  ·exact .inr (.inl (Nat.le_trans h.chg.size h1))
  ·rcases h.locF c hc k hk' with h2 | h2
   ·exact .inr (.inr h2)
   ·exact .inr (.inl h2)

/-- What is deferred: marks of ranges over functions alone, whose blocks lie since the call began. -/
def DefOk (σ : Sg) (W : World) (ds : List Deferred) (w : World) : Prop := ds.Nodup ∧ ∀ d ∈ ds, ∃ D, d = { target := .collected D, args := #[] } ∧ W.heap.size ≤ D ∧ ¬ σ.R D ∧ w.heap[D]? = some (.deferred (some []))
theorem DefOk.nil {σ : Sg} {W w : World} : DefOk σ W [] w := ⟨List.nodup_nil, fun d h => by cases h⟩
theorem Blk.not_def {σ : Sg} {w : World} {b : Nat} {φ : Nat → Prop} {B : AB} (h : Blk σ w b φ B) (ha : B ≠ .dead) {x : Option (List Deferred)} (hd : w.heap[b]? = some (.deferred x)) : False := by
 cases B with
 | dead => exact ha rfl
 | cells e cs => obtain ⟨c, hc, _⟩ := h; rw [hd] at hc; cases hc
 | vec e t xs => obtain ⟨c, hc, _⟩ := h; rw [hd] at hc; cases hc
 | ovec e t xs => obtain ⟨c, hc, _⟩ := h; rw [hd] at hc; cases hc
 | map k kt et n m =>
  obtain ⟨f, hM, _⟩ := h
  obtain ⟨dd, ⟨es, clock, hc, _⟩, _⟩ := hM
  rw [hd] at hc; cases hc
 | nest e s xs ko hi hs => obtain ⟨c, hc, _⟩ := h; rw [hd] at hc; cases hc
theorem IsC.not_def {w : World} {b : Nat} (h : IsC w b) {x : Option (List Deferred)} (hd : w.heap[b]? = some (.deferred x)) : False := by
 obtain ⟨c, e, fr, h⟩ := h
 rw [hd] at h; cases h
theorem RelG.not_def {σ : Sg} {G : Nat → AB} {w : World} (hr : RelG σ G w) {b k : Nat} (hb : G b ≠ .dead) (hk : σ.fp b k) {x : Option (List Deferred)} (hd : w.heap[k]? = some (.deferred x)) : False := by
 rcases hk with rfl | hk
 ·exact (hr.blk b hb).not_def hb hd
 ·exact (hr.flt b hb k hk).not_def hd
theorem DefOk.stp {σ σ' : Sg} {G G' : Nat → AB} {W w w' : World} {wr : List Nat} {ds : List Deferred} (h : DefOk σ W ds w) (hr : RelG σ G w) (hs : Stp σ G w wr G' σ' w') : DefOk σ' W ds w' := ⟨h.1, fun d hd => by
 obtain ⟨D, e, hW, hR, hD⟩ := h.2 d hd
 have hlt := (Array.getElem?_eq_some_iff.1 hD).1
 have hf : ¬ fpOf σ G wr D := by
  rintro ⟨b, _, hb, hk⟩
  exact hr.not_def hb hk hD
 refine ⟨D, e, hW, fun h1 => ?_, (hs.chg.block D hlt hf).trans hD⟩
 rcases hs.Rnew D h1 with h2 | h2 | h2
 ·exact hR h2
 ·omega
 ·exact hf h2⟩
/-- Where the abstract execution stands, and where the machine does. -/
structure RS1 (σ0 : Sg) (G0 : Nat → AB) (W : World) (env : List AV) (H : List AB) (a : Act) (w : World) (σ : Sg) : Prop where
 D : ∀ b, σ.D b → b < H.length
 env : EnvR σ w env a.tmps
 rel : RelG σ (gv H) w
 out : Out σ0 G0 W σ (gv H) w
 defers : DefOk σ W a.defers w
def RS (σ0 : Sg) (G0 : Nat → AB) (W : World) (env : List AV) (H : List AB) (a : Act) (w : World) : Prop := ∃ σ, RS1 σ0 G0 W env H a w σ
theorem EnvR.ext {σ σ' : Sg} {w w' : World} {env : List AV} {tm : Array Value} (hx : Ext σ w σ' w') (h : EnvR σ w env tm) : EnvR σ' w' env tm := ⟨h.1, fun t => (h.2 t).ext hx⟩
theorem EnvR.put {σ : Sg} {w : World} {env : List AV} {a : Act} {dst : Option Tmp} {v : AV} {x : Value} (h : EnvR σ w env a.tmps) (hv : CA σ w v x) : EnvR σ w (putE env dst v) (a.put dst x).tmps := by
 cases dst with
 | none => exact h
 | some d =>
  refine ⟨by simp [putE, Act.put, h.1], fun t => ?_⟩
  simp only [putE, Act.put]
  by_cases hd : d = t
  ·subst hd
   by_cases hl : d < env.length
   ·have h1 : (env.set d v).getD d .junk = v := by simp [List.getD_eq_getElem?_getD, hl]
    have h2 : (a.tmps.setIfInBounds d x).getD d undef = x := by simp [show d < a.tmps.size by rw [← h.1]; exact hl]
    rw [h1, h2]; exact hv
   ·have h1 : (env.set d v).getD d .junk = .junk := by
     rw [List.getD_eq_getElem?_getD, List.getElem?_eq_none (by rw [List.length_set]; exact Nat.le_of_not_lt hl)]; rfl
    rw [h1]; trivial
  ·have h1 : (env.set d v).getD t .junk = env.getD t .junk := by simp [List.getD_eq_getElem?_getD, List.getElem?_set_ne hd]
   have h2 : (a.tmps.setIfInBounds d x).getD t undef = a.tmps.getD t undef := by simp [Array.getElem?_setIfInBounds_ne hd]
   rw [h1, h2]; exact h.2 t
theorem updG_gv {H H' : List AB} {wr : List Nat} (h : ∀ b, b ∉ wr → gv H' b = gv H b) : updG (gv H) wr (gv H') = gv H' := by
 funext b
 unfold updG
 split
 ·rfl
 ·rename_i hb; exact (h b hb).symm
section
variable {P : Program} {S : List Item → List AV → List AB → Prop} {Q : AV → List AB → Prop} {o : Oper} {env : List AV} {H : List AB} {σ0 : Sg} {G0 : Nat → AB} {W : World}
theorem RS.op {a : Act} {w : World} {v : AV} {H' : List AB} {rd wr : List Nat} (h : RS σ0 G0 W env H a w) (ha : Acts P o env H v H' rd wr) : OpTo P o a w fun x w' => RS σ0 G0 W (putE env o.dst v) H' (a.put o.dst x) w' := by
 obtain ⟨σ, h⟩ := h
 refine (ha.act σ (gv H) a w (fun x _ => ev_ok h.rel.glob h.env x) (fun _ _ => rfl) (fun b _ hb hD => absurd (h.D b hD) (by omega)) h.rel).mono fun x w' ⟨σ', hs, hv⟩ => ⟨σ', ?_, ?_, ?_, ?_, ?_⟩
 ·intro b hb
  rcases (hs.D b).1 hb with h1 | h1
  ·exact Nat.lt_of_lt_of_le (h.D b h1) ha.len
  ·exact ha.lt b h1
 ·exact (h.env.ext hs.ext).put hv
 ·have := hs.rel h.rel
  rwa [updG_gv ha.off] at this
 ·have := h.out.step h.rel hs
  rwa [updG_gv ha.off] at this
 ·have hq := h.defers.stp h.rel hs
  cases hd : o.dst <;> simpa [Act.put, hd] using hq
theorem undef_ok {σ : Sg} {w : World} : CA σ w (.tup []) undef := ⟨#[], rfl, All2.nil⟩
theorem RS.gone {a : Act} {w : World} (h : RS σ0 G0 W env H a w) {d : Tmp} (hv : env.getD d .junk = .tup []) : a.tmps.getD d undef = undef := by
 obtain ⟨σ, h⟩ := h
 have h1 := h.env.2 d
 rw [hv] at h1
 obtain ⟨vs, h2, h3⟩ := h1
 have h4 : vs.toList = [] := List.eq_nil_of_length_eq_zero h3.1.symm
 have h5 : vs = #[] := by simpa using h4
 rw [h2, h5]; rfl
theorem RS.skip {a : Act} {w : World} (h : RS σ0 G0 W env H a w) (dst : Option Tmp) : RS σ0 G0 W (putE env dst (.tup [])) H (a.put dst undef) w := by
 obtain ⟨σ, h⟩ := h
 exact ⟨σ, h.D, h.env.put (v := .tup []) undef_ok, h.rel, h.out, by cases dst <;> simpa [Act.put] using h.defers⟩
/-- A bool in the frame. -/
theorem RS.bool {a : Act} {w : World} (h : RS σ0 G0 W env H a w) {d : Tmp} {b : Bool} (hv : env.getD d .junk = .c (.bool b) ∨ env.getD d .junk = .c (.lit b)) : a.tmps[d]? = some (.bool b) := by
 obtain ⟨σ, h⟩ := h
 have h1 := h.env.2 d
 have h2 : a.tmps.getD d undef = .bool b := by
  rcases hv with hv | hv <;> (rw [hv] at h1; exact h1)
 by_cases hd : d < a.tmps.size
 ·simp [hd] at h2
  simp [hd, h2]
 ·simp [hd, undef] at h2
theorem RS.lit {a : Act} {w : World} (h : RS σ0 G0 W env H a w) {d : Tmp} {b : Bool} (hv : env.getD d .junk = .c (.bool b)) : RS σ0 G0 W (env.set d (.c (.lit b))) H a w := by
 have hb := h.bool (.inl hv)
 obtain ⟨σ, h⟩ := h
 refine ⟨σ, h.D, ?_, h.rel, h.out, h.defers⟩
 have := h.env.put (a := a) (dst := some d) (v := .c (.lit b)) (x := .bool b) rfl
 have e : a.tmps.setIfInBounds d (.bool b) = a.tmps := by
  obtain ⟨hd, he⟩ := Array.getElem?_eq_some_iff.1 hb
  apply Array.ext
  ·simp
  ·intro i h1 h2
   by_cases hi : d = i
   ·subst hi; simp [he]
   ·rw [Array.getElem_setIfInBounds_ne (h := hi)]
 simp only [putE, Act.put, e] at this
 exact this

/-- What a guard leaves. -/
theorem good_guard {ops : List Oper} {go skip : List AV → Tree} (hG : Good P S Q (onGuard ops o env go skip)) :
  (o.guard = none ∧ Good P S Q (go env)) ∨ (∃ j want d b env', o.guard = some (j, want) ∧ dstOf ops j = some d ∧ (env.getD d .junk = .c (.bool b) ∧ env' = env.set d (.c (.lit b)) ∨ env.getD d .junk = .c (.lit b) ∧ env' = env) ∧ ((b = want ∧ Good P S Q (go env')) ∨ (b ≠ want ∧ Good P S Q (skip env')))) ∨ ∃ j want d, o.guard = some (j, want) ∧ dstOf ops j = some d ∧ env.getD d .junk = .tup [] ∧ Good P S Q (skip env) := by
 unfold onGuard at hG
 split at hG
 ·rename_i hg; exact .inl ⟨hg, hG⟩
 ·rename_i j want hg
  right
  split at hG
  ·rename_i d hd
   split at hG
   ·rename_i b hb
    left
    refine ⟨j, want, d, b, env, hg, hd, .inr ⟨hb, rfl⟩, ?_⟩
    split at hG
    ·rename_i he; exact .inl ⟨by simpa using he, hG⟩
    ·rename_i he; exact .inr ⟨by simpa using he, hG⟩
   ·rename_i b hb
    left
    refine ⟨j, want, d, b, _, hg, hd, .inl ⟨hb, rfl⟩, ?_⟩
    split at hG
    ·rename_i hw
     subst hw
     cases b with
     | true => exact .inl ⟨rfl, hG.1 rfl⟩
     | false => exact .inr ⟨by simp, hG.2 rfl⟩
    ·rename_i hw
     have hw : want = false := by simpa using hw
     subst hw
     cases b with
     | true => exact .inr ⟨by simp, hG.1 rfl⟩
     | false => exact .inl ⟨rfl, hG.2 rfl⟩
   ·rename_i hb
    exact .inr ⟨j, want, d, hg, hd, hb, hG⟩
   ·exact hG.elim
  ·exact hG.elim

theorem yielded_gone {opsA : Array Oper} {tmps : Array Value} {j : Nat} {d : Tmp} (hd : (opsA[j]?).bind (·.dst) = some d) (h : tmps.getD d undef = undef) : yielded opsA tmps j = none := by
 unfold yielded
 rw [hd]
 simp only [Option.bind_some]
 rw [Array.getD_eq_getD_getElem?] at h
 cases hq : tmps[d]? with
 | none => rfl
 | some v =>
  rw [hq] at h
  have h : v = undef := h
  rw [h]; rfl
theorem ops_seq {oc : Orc} (opsA : Array Oper) (Qc : Exit → Act → World → Prop) (K : List AV → List AB → Tree) (hK : ∀ env H a w, Good P S Q (K env H) → RS σ0 G0 W env H a w → Qc .normal a w) : ∀ (r : List Oper) (i : Nat) (ms : List Nat) (rs : List Rc) (env : List AV) (H : List AB) (a : Act) (w : World),
  opsA.toList.drop i = r → Good P S Q (aOps P oc false opsA.toList i r ms rs env H K) → RS σ0 G0 W env H a w → wpOps P opsA Qc (List.range' i r.length) a w := by
 intro r
 induction r with
 | nil => intro i ms rs env H a w hr hG hs; exact hK _ _ _ _ hG hs
 | cons o r ih =>
  intro i ms rs env H a w hr hG hs
  have hoi : opsA[i]? = some o := by
   have := congrArg (·[0]?) hr
   simpa [List.getElem?_drop] using this
  have hdrop : opsA.toList.drop (i + 1) = r := by
   have := congrArg (List.drop 1) hr
   simpa [List.drop_drop, Nat.add_comm] using this
  simp only [List.length_cons, List.range'_succ, wpOps, hoi]
  unfold aOps at hG
  simp only [Bool.not_false, Bool.true_or, if_true] at hG
  have done : ∀ env' (a' : Act), RS σ0 G0 W env' H a' w → Good P S Q (aOp P oc o env' H fun v H' rd wr => aOps P oc false opsA.toList (i + 1) r (ms ++ [ancOf ms o.after.toList]) (⟨i, rdOf opsA.toList o ++ blkR rd, wrOf o ++ blkR wr⟩ :: rs) (putE env' o.dst v) H' K) → o.wp P a' w (wpOps P opsA Qc (List.range' (i + 1) r.length)) Qc := fun env' a' hs' hG' => by
   obtain ⟨v, H', rd, wr, hG', ha⟩ := aOp_ok hG'
   exact RS.op hs' ha _ _ fun x w' h => ih _ _ _ _ _ _ _ hdrop hG' h
  rcases good_guard hG with ⟨hg, hG⟩ | ⟨j, want, d, b, env', hg, hd, hb, hG⟩ | ⟨j, want, d, hg, hd, hb, hG⟩
  ·rw [if_pos (by simp [Region.wanted, hg])]
   exact .inl (done env a hs hG)
  ·have hd' : (opsA[j]?).bind (·.dst) = some d := by simpa [dstOf] using hd
   have hy : yielded opsA a.tmps j = some b := by
    unfold yielded
    rw [hd']
    simp only [Option.bind_some]
    rw [hs.bool (d := d) (b := b) (by rcases hb with ⟨h, _⟩ | ⟨h, _⟩; exact .inl h; exact .inr h)]
   have hs' : RS σ0 G0 W env' H a w := by
    rcases hb with ⟨h, rfl⟩ | ⟨h, rfl⟩
    ·exact hs.lit h
    ·exact hs
   rcases hG with ⟨hbw, hG⟩ | ⟨hbw, hG⟩
   ·rw [if_pos (by simp [Region.wanted, hg, hy, hbw])]
    exact .inl (done env' a hs' hG)
   ·rw [if_neg (by simp [Region.wanted, hg, hy, hbw])]
    exact ih _ _ _ _ _ _ _ hdrop hG (hs'.skip o.dst)
  ·have hd' : (opsA[j]?).bind (·.dst) = some d := by simpa [dstOf] using hd
   have hy : yielded opsA a.tmps j = none := yielded_gone hd' (hs.gone hb)
   rw [if_neg (by simp [Region.wanted, hg, hy])]
   exact ih _ _ _ _ _ _ _ hdrop hG (hs.skip o.dst)
end
end Go.Proofs.YtkonkblfckhcbaaGreatDoor
namespace Go.Proofs.YtkonkblfckhcbaaGreatDoor
set_option linter.unusedVariables false
set_option linter.unusedSimpArgs false
open Go.RowKit

/-! ### last writers -/
section
variable {α : Type}
def lastV (S Wr : Nat → Bool) (x : Nat → α) : Nat → α
  | 0 => x 0
  | k + 1 => if S k && Wr k then x (k + 1) else lastV S Wr x k
variable {S S' Wr : Nat → Bool} {x : Nat → α}
theorem lastV_all {p : α → Prop} (h : ∀ k, p (x k)) : ∀ k, p (lastV S Wr x k)
  | 0 => h 0
  | k + 1 => by
    unfold lastV
    split
    · exact h _
    · exact lastV_all h k
theorem lastV_at (hx : ∀ k, Wr k = false → x (k + 1) = x k) : ∀ (i n : Nat), i ≤ n → (∀ j, j < i → Wr j = true → S j = true) → (∀ j, i ≤ j → j < n → S j = true → Wr j = false) → lastV S Wr x n = x i
  | i, 0, hi, _, _ => by obtain rfl : i = 0 := by omega
                         rfl
  | i, n + 1, hi, h1, h2 => by
    unfold lastV
    rcases Nat.lt_or_ge n i with h | h
    · obtain rfl : i = n + 1 := by omega
      cases hw : Wr n with
      | true => rw [h1 n (by omega) hw]; rfl
      | false =>
        simp only [Bool.and_false, Bool.false_eq_true, if_false]
        rw [lastV_at hx n n (Nat.le_refl _) (fun j hj => h1 j (by omega)) (fun j a b => by omega), hx n hw]
    · have e : (S n && Wr n) = false := by
        cases hs : S n with
        | false => rfl
        | true => rw [h2 n h (by omega) hs]; rfl
      rw [e]
      simp only [Bool.false_eq_true, if_false]
      exact lastV_at hx i n h h1 (fun j a b => h2 j a (by omega))
theorem lastV_off {i : Nat} (hS : ∀ j, j ≠ i → S' j = S j) (hi : Wr i = false) : ∀ n, lastV S' Wr x n = lastV S Wr x n
  | 0 => rfl
  | n + 1 => by
    unfold lastV
    by_cases h : n = i
    · subst h; rw [hi]; simp; exact lastV_off hS hi n
    · rw [hS n h, lastV_off hS hi n]
theorem lastV_on {i : Nat} (hS : S' i = true) (hi : Wr i = true) : ∀ n, i < n → (∀ j, i < j → j < n → S' j = true → Wr j = false) → lastV S' Wr x n = x (i + 1)
  | 0, h, _ => by omega
  | n + 1, h, h2 => by
    unfold lastV
    by_cases e : n = i
    · subst e; rw [hS, hi]; rfl
    · have e2 : (S' n && Wr n) = false := by
        cases hs : S' n with
        | false => rfl
        | true => rw [h2 n (by omega) (by omega) hs]; rfl
      rw [e2]
      simp only [Bool.false_eq_true, if_false]
      exact lastV_on hS hi n (by omega) (fun j a b => h2 j a (by omega))
end

/-! ### the trace in the text's order -/
structure Ev where
  o : Oper
  anc : Nat
  eb : List AV
  ea : List AV
  Hb : List AB
  Ha : List AB
  rd : List Nat
  wr : List Nat
def SPeq (env env' : List AV) : Prop := env.length = env'.length ∧ ∀ t σ w x, CA σ w (env.getD t .junk) x ↔ CA σ w (env'.getD t .junk) x
section
variable (P : Program) (opsL : List Oper)
/-- Which way a guard went. -/
def GuardIs (o : Oper) (env : List AV) (go : Bool) : Prop := (o.guard = none ∧ go = true) ∨ ∃ j want d b, o.guard = some (j, want) ∧ dstOf opsL j = some d ∧ (env.getD d .junk = .c (.bool b) ∧ go = (b == want) ∨ env.getD d .junk = .c (.lit b) ∧ go = (b == want) ∨ env.getD d .junk = .tup [] ∧ go = false)
structure EvOk (e : Ev) : Prop where
  len : e.Hb.length ≤ e.Ha.length
  act : ∃ env', SPeq env' e.eb ∧ ((GuardIs opsL e.o e.eb true ∧ ∃ v rd wr, Acts P e.o env' e.Hb v e.Ha rd wr ∧ e.ea = putE env' e.o.dst v ∧ e.rd = rdOf opsL e.o ++ blkR rd ∧ e.wr = wrOf e.o ++ blkR wr) ∨
    (GuardIs opsL e.o e.eb false ∧ e.ea = putE env' e.o.dst (.tup []) ∧ e.Ha = e.Hb ∧ e.rd = rdOf opsL e.o ∧ e.wr = wrOf e.o))
inductive TrI (env0 : List AV) (H0 : List AB) : List Ev → List AV → List AB → Prop
  | nil : TrI env0 H0 [] env0 H0
  | snoc {T : List Ev} {env : List AV} {H : List AB} {e : Ev} (h : TrI env0 H0 T env H) (ho : opsL[T.length]? = some e.o) (hb : e.eb = env) (hH : e.Hb = H) (ha : e.anc = ancOf (T.map (·.anc)) e.o.after.toList) (hlt : e.anc < 2 ^ T.length)
      (hc : ∀ j f, T[j]? = some f → e.anc.testBit j = true ∨ (meets f.wr (e.rd ++ e.wr) = false ∧ meets e.wr f.rd = false)) (hok : EvOk P opsL e) : TrI env0 H0 (T ++ [e]) e.ea e.Ha
end
theorem clear1_ok {anc : Nat} {rd wr : List Nat} : ∀ {rs : List Rc}, clear1 anc rd wr rs = true → ∀ r ∈ rs, anc.testBit r.i = true ∨ (meets r.wr (rd ++ wr) = false ∧ meets wr r.rd = false) := by
  intro rs
  induction rs with
  | nil => intro h r hr; cases hr
  | cons a rs ih =>
    intro h r hr
    simp only [clear1, Bool.and_eq_true, Bool.or_eq_true, Bool.not_eq_true', Bool.or_eq_false_iff] at h
    rcases List.mem_cons.1 hr with rfl | hr
    · exact h.1
    · exact ih h.2 r hr
theorem SPeq.refl (env : List AV) : SPeq env env := ⟨rfl, fun _ _ _ _ => Iff.rfl⟩
theorem SPeq.lit {env : List AV} {d : Nat} {b : Bool} (h : env.getD d .junk = .c (.bool b)) : SPeq (env.set d (.c (.lit b))) env := by
  refine ⟨by simp, fun t σ w x => ?_⟩
  by_cases hd : d = t
  · subst hd
    have hl : d < env.length := by
      rcases Nat.lt_or_ge d env.length with h' | h'
      · exact h'
      · rw [List.getD_eq_getElem?_getD, List.getElem?_eq_none h'] at h; cases h
    have h1 : (env.set d (.c (.lit b))).getD d .junk = .c (.lit b) := by simp [List.getD_eq_getElem?_getD, hl]
    rw [h1, h]
    exact Iff.rfl
  · have h1 : (env.set d (.c (.lit b))).getD t .junk = env.getD t .junk := by simp [List.getD_eq_getElem?_getD, List.getElem?_set_ne hd]
    rw [h1]
section
variable {P : Program} {S : List Item → List AV → List AB → Prop} {Q : AV → List AB → Prop} {opsL : List Oper} {K : List AV → List AB → Tree} {env0 : List AV} {H0 : List AB}
theorem trace_of {oc : Orc} : ∀ (r : List Oper) (i : Nat) (ms : List Nat) (rs : List Rc) (env : List AV) (H : List AB) (T : List Ev), opsL.drop i = r → T.length = i → ms = T.map (·.anc) → (∀ j f, T[j]? = some f → (⟨j, f.rd, f.wr⟩ : Rc) ∈ rs) → TrI P opsL env0 H0 T env H →
    Good P S Q (aOps P oc true opsL i r ms rs env H K) → ∃ T' env' H', TrI P opsL env0 H0 T' env' H' ∧ T'.length = opsL.length ∧ Good P S Q (K env' H') := by
  intro r
  induction r with
  | nil =>
    intro i ms rs env H T hr hi hms hrs hT hG
    refine ⟨T, env, H, hT, ?_, hG⟩
    have h1 : opsL.length ≤ i := by simpa using hr
    have h2 : T.length ≤ opsL.length := by
      clear hG hr hrs hms hi h1
      induction hT with
      | nil => simp
      | snoc h ho _ _ _ _ _ _ ih => simp; exact (List.getElem?_eq_some_iff.1 ho).1
    omega
  | cons o r ih =>
    intro i ms rs env H T hr hi hms hrs hT hG
    have hoi : opsL[i]? = some o := by
      have := congrArg (·[0]?) hr
      simpa [List.getElem?_drop] using this
    have hdrop : opsL.drop (i + 1) = r := by
      have := congrArg (List.drop 1) hr
      simpa [List.drop_drop, Nat.add_comm] using this
    unfold aOps at hG
    simp only [Bool.not_true, Bool.false_or] at hG
    have next : ∀ (e : Ev), e.o = o → e.eb = env → e.Hb = H → e.anc = ancOf ms o.after.toList → EvOk P opsL e →
        Good P S Q (if clear1 (ancOf ms o.after.toList) e.rd e.wr rs && Nat.blt (ancOf ms o.after.toList) (2 ^ i) then aOps P oc true opsL (i + 1) r (ms ++ [ancOf ms o.after.toList]) (⟨i, e.rd, e.wr⟩ :: rs) e.ea e.Ha K else .fail 102) →
        ∃ T' env' H', TrI P opsL env0 H0 T' env' H' ∧ T'.length = opsL.length ∧ Good P S Q (K env' H') := fun e he1 he2 he3 he4 hok hG => by
      split at hG
      · rename_i hc
        rw [Bool.and_eq_true] at hc
        refine ih (i + 1) _ _ e.ea e.Ha (T ++ [e]) hdrop (by simp [hi]) (by simp [hms, he4]) ?_ (.snoc hT (by rw [hi, he1]; exact hoi) he2 he3 (by rw [he4, he1, hms]) (by rw [he4, hi]; exact Nat.blt_eq ▸ hc.2) ?_ hok) hG
        · intro j f hf
          rcases Nat.lt_or_ge j T.length with h | h
          · rw [List.getElem?_append_left h] at hf
            exact List.mem_cons_of_mem _ (hrs j f hf)
          · rw [List.getElem?_append_right h] at hf
            have hj : j - T.length = 0 := by
              have := (List.getElem?_eq_some_iff.1 hf).1
              simp at this; omega
            rw [hj] at hf
            simp at hf
            subst hf
            have : j = i := by omega
            subst this
            exact List.mem_cons_self
        · intro j f hf
          have := clear1_ok hc.1 _ (hrs j f hf)
          rw [he4]
          exact this
      · exact hG.elim
    rcases good_guard hG with ⟨hg, hG⟩ | ⟨j, want, d, b, env', hg, hd, hb, hG⟩ | ⟨j, want, d, hg, hd, hb, hG⟩
    · obtain ⟨v, H', rd, wr, hG, ha⟩ := aOp_ok hG
      exact next ⟨o, ancOf ms o.after.toList, env, putE env o.dst v, H, H', rdOf opsL o ++ blkR rd, wrOf o ++ blkR wr⟩ rfl rfl rfl rfl ⟨ha.len, env, SPeq.refl _, .inl ⟨.inl ⟨hg, rfl⟩, v, rd, wr, ha, rfl, rfl, rfl⟩⟩ hG
    · have hsp : SPeq env' env := by
        rcases hb with ⟨h, rfl⟩ | ⟨h, rfl⟩
        · exact SPeq.lit h
        · exact SPeq.refl _
      have hbb : ∀ go, go = (b == want) → (env.getD d .junk = .c (.bool b) ∧ go = (b == want) ∨ env.getD d .junk = .c (.lit b) ∧ go = (b == want) ∨ env.getD d .junk = .tup [] ∧ go = false) := fun go hgo => by
        rcases hb with ⟨h, _⟩ | ⟨h, _⟩
        · exact .inl ⟨h, hgo⟩
        · exact .inr (.inl ⟨h, hgo⟩)
      rcases hG with ⟨hbw, hG⟩ | ⟨hbw, hG⟩
      · obtain ⟨v, H', rd, wr, hG, ha⟩ := aOp_ok hG
        exact next ⟨o, ancOf ms o.after.toList, env, putE env' o.dst v, H, H', rdOf opsL o ++ blkR rd, wrOf o ++ blkR wr⟩ rfl rfl rfl rfl ⟨ha.len, env', hsp, .inl ⟨.inr ⟨j, want, d, b, hg, hd, hbb _ (by simp [hbw])⟩, v, rd, wr, ha, rfl, rfl, rfl⟩⟩ hG
      · exact next ⟨o, ancOf ms o.after.toList, env, putE env' o.dst (.tup []), H, H, rdOf opsL o, wrOf o⟩ rfl rfl rfl rfl ⟨Nat.le_refl _, env', hsp, .inr ⟨.inr ⟨j, want, d, b, hg, hd, hbb _ (by simp [hbw])⟩, rfl, rfl, rfl, rfl⟩⟩ hG
    · exact next ⟨o, ancOf ms o.after.toList, env, putE env o.dst (.tup []), H, H, rdOf opsL o, wrOf o⟩ rfl rfl rfl rfl ⟨Nat.le_refl _, env, SPeq.refl _, .inr ⟨.inr ⟨j, want, d, false, hg, hd, .inr (.inr ⟨hb, rfl⟩)⟩, rfl, rfl, rfl, rfl⟩⟩ hG
/-- The states of a trace. -/
def stE (env0 : List AV) (T : List Ev) : Nat → List AV
  | 0 => env0
  | k + 1 => match T[k]? with
    | some e => e.ea
    | none => stE env0 T k
def stH (H0 : List AB) (T : List Ev) : Nat → List AB
  | 0 => H0
  | k + 1 => match T[k]? with
    | some e => e.Ha
    | none => stH H0 T k
/-- All that a trace says. -/
structure TrA (P : Program) (opsL : List Oper) (env0 : List AV) (H0 : List AB) (T : List Ev) : Prop where
  op : ∀ (i : Nat) (e : Ev), T[i]? = some e → opsL[i]? = some e.o
  eb : ∀ (i : Nat) (e : Ev), T[i]? = some e → e.eb = stE env0 T i
  Hb : ∀ (i : Nat) (e : Ev), T[i]? = some e → e.Hb = stH H0 T i
  anc : ∀ (i : Nat) (e : Ev), T[i]? = some e → e.anc = ancOf ((T.take i).map (·.anc)) e.o.after.toList
  lt : ∀ (i : Nat) (e : Ev), T[i]? = some e → e.anc < 2 ^ i
  clr : ∀ (i j : Nat) (e f : Ev), T[i]? = some e → T[j]? = some f → j < i → e.anc.testBit j = true ∨ (meets f.wr (e.rd ++ e.wr) = false ∧ meets e.wr f.rd = false)
  ok : ∀ (i : Nat) (e : Ev), T[i]? = some e → EvOk P opsL e
theorem stE_app {T : List Ev} {e : Ev} {k : Nat} (h : k ≤ T.length) : stE env0 (T ++ [e]) k = stE env0 T k := by
  cases k with
  | zero => rfl
  | succ k =>
    simp only [stE, List.getElem?_append_left (show k < T.length by omega)]
    rw [List.getElem?_eq_getElem (show k < T.length by omega)]
theorem stH_app {T : List Ev} {e : Ev} {k : Nat} (h : k ≤ T.length) : stH H0 (T ++ [e]) k = stH H0 T k := by
  cases k with
  | zero => rfl
  | succ k =>
    simp only [stH, List.getElem?_append_left (show k < T.length by omega)]
    rw [List.getElem?_eq_getElem (show k < T.length by omega)]
theorem TrI.all {T : List Ev} {env : List AV} {H : List AB} (h : TrI P opsL env0 H0 T env H) : TrA P opsL env0 H0 T ∧ env = stE env0 T T.length ∧ H = stH H0 T T.length := by
  induction h with
  | nil => exact ⟨⟨fun i e h => by simp at h, fun i e h => by simp at h, fun i e h => by simp at h, fun i e h => by simp at h, fun i e h => by simp at h, fun i j e f h => by simp at h, fun i e h => by simp at h⟩, rfl, rfl⟩
  | @snoc T env H e h ho hb hH ha hlt hc hok ih =>
    obtain ⟨A, h1, h2⟩ := ih
    have part : ∀ i f, (T ++ [e])[i]? = some f → (i < T.length ∧ T[i]? = some f) ∨ (i = T.length ∧ f = e) := fun i f hf => by
      rcases Nat.lt_or_ge i T.length with hi | hi
      · rw [List.getElem?_append_left hi] at hf; exact .inl ⟨hi, hf⟩
      · rw [List.getElem?_append_right hi] at hf
        have hj : i - T.length = 0 := by
          have := (List.getElem?_eq_some_iff.1 hf).1
          simp at this; omega
        rw [hj] at hf
        simp at hf
        exact .inr ⟨by omega, hf.symm⟩
    refine ⟨⟨?_, ?_, ?_, ?_, ?_, ?_, ?_⟩, ?_, ?_⟩
    · intro i f hf
      rcases part i f hf with ⟨hi, hf⟩ | ⟨rfl, rfl⟩
      · exact A.op i f hf
      · exact ho
    · intro i f hf
      rcases part i f hf with ⟨hi, hf⟩ | ⟨rfl, rfl⟩
      · rw [stE_app (by omega)]; exact A.eb i f hf
      · rw [stE_app (Nat.le_refl _), hb]; exact h1
    · intro i f hf
      rcases part i f hf with ⟨hi, hf⟩ | ⟨rfl, rfl⟩
      · rw [stH_app (by omega)]; exact A.Hb i f hf
      · rw [stH_app (Nat.le_refl _), hH]; exact h2
    · intro i f hf
      rcases part i f hf with ⟨hi, hf⟩ | ⟨rfl, rfl⟩
      · rw [List.take_append_of_le_length (by omega)]; exact A.anc i f hf
      · rw [List.take_left']; exact ha; rfl
    · intro i f hf
      rcases part i f hf with ⟨hi, hf⟩ | ⟨rfl, rfl⟩
      · exact A.lt i f hf
      · exact hlt
    · intro i j f g hf hg hij
      rcases part i f hf with ⟨hi, hf⟩ | ⟨rfl, rfl⟩
      · rcases part j g hg with ⟨hj, hg⟩ | ⟨rfl, rfl⟩
        · exact A.clr i j f g hf hg hij
        · omega
      · rcases part j g hg with ⟨hj, hg⟩ | ⟨rfl, rfl⟩
        · exact hc j g hg
        · omega
    · intro i f hf
      rcases part i f hf with ⟨hi, hf⟩ | ⟨rfl, rfl⟩
      · exact A.ok i f hf
      · exact hok
    · simp [stE]
    · simp [stH]

/-! ### counting, what is ahead -/
def cnt (S : Nat → Bool) : Nat → Nat
  | 0 => 0
  | n + 1 => cnt S n + if S n then 0 else 1
theorem cnt_set {S S' : Nat → Bool} {i : Nat} (hi : S i = false) (hi' : S' i = true) (hS : ∀ j, j ≠ i → S' j = S j) : ∀ n, cnt S' n + (if i < n then 1 else 0) = cnt S n
  | 0 => by simp [cnt]
  | n + 1 => by
    have ih := cnt_set hi hi' hS n
    by_cases h : n = i
    · subst h
      have ih' : cnt S' n = cnt S n := by simpa using ih
      simp [cnt, hi, hi', ih']
    · simp only [cnt, hS n h]
      have e : (if i < n + 1 then 1 else 0) = (if i < n then 1 else 0) := by
        by_cases h2 : i < n
        · rw [if_pos h2, if_pos (Nat.lt_succ_of_lt h2)]
        · rw [if_neg h2, if_neg (by omega)]
      rw [e]; omega
theorem cnt_zero {S : Nat → Bool} : ∀ n, cnt S n = 0 → ∀ k, k < n → S k = true
  | 0, _, k, hk => by omega
  | n + 1, h, k, hk => by
    unfold cnt at h
    by_cases e : k = n
    · subst e
      cases hs : S k with
      | true => rfl
      | false => rw [hs] at h; simp at h
    · exact cnt_zero n (by omega) k (by omega)
/-- Whatever is ahead of what is listed is listed. -/
theorem anc_bits (ms : List Nat) : ∀ (es : List Edge) (j : Nat), (ancOf ms es).testBit j = true → ∃ e ∈ es, Region.binds .any e = true ∧ (e.on = j ∨ (ms.getD e.on 0).testBit j = true) := by
  intro es
  induction es with
  | nil => intro j h; simp [ancOf] at h
  | cons e es ih =>
    intro j h
    unfold ancOf at h
    split at h
    · rename_i hb
      rw [Nat.testBit_or, Nat.testBit_or, Bool.or_eq_true, Bool.or_eq_true] at h
      rcases h with (h | h) | h
      · refine ⟨e, by simp, hb, .inl ?_⟩
        rw [Nat.testBit_two_pow] at h
        simpa using h
      · exact ⟨e, by simp, hb, .inr h⟩
      · obtain ⟨e', h1, h2⟩ := ih j h
        exact ⟨e', by simp [h1], h2⟩
    · obtain ⟨e', h1, h2⟩ := ih j h
      exact ⟨e', by simp [h1], h2⟩
theorem anc_has (ms : List Nat) : ∀ (es : List Edge) (e : Edge), e ∈ es → Region.binds .any e = true → (ancOf ms es).testBit e.on = true := by
  intro es
  induction es with
  | nil => intro e h; cases h
  | cons x es ih =>
    intro e h hb
    unfold ancOf
    rcases List.mem_cons.1 h with rfl | h
    · rw [if_pos hb, Nat.testBit_or, Nat.testBit_or]
      simp [Nat.testBit_two_pow]
    · have := ih e h hb
      split
      · rw [Nat.testBit_or, this]; simp
      · exact this
section
variable {T : List Ev} (A : TrA P opsL env0 H0 T)
include A
theorem TrA.on_lt {i : Nat} {e : Ev} (h : T[i]? = some e) {d : Edge} (hd : d ∈ e.o.after.toList) (hb : Region.binds .any d = true) : d.on < i := by
  have h1 := anc_has ((T.take i).map (·.anc)) _ d hd hb
  rw [← A.anc i e h] at h1
  have h2 := A.lt i e h
  rcases Nat.lt_or_ge d.on i with h3 | h3
  · exact h3
  · have := Nat.testBit_lt_two_pow (Nat.lt_of_lt_of_le h2 (Nat.pow_le_pow_right (by omega) h3))
    rw [this] at h1; cases h1
theorem TrA.closed {Sb : Nat → Bool} (hcl : ∀ k e, T[k]? = some e → Sb k = true → ∀ d ∈ e.o.after.toList, Region.binds .any d = true → Sb d.on = true) : ∀ (k : Nat) (e : Ev) (j : Nat), T[k]? = some e → (∀ d ∈ e.o.after.toList, Region.binds .any d = true → Sb d.on = true) → e.anc.testBit j = true → Sb j = true := by
  intro k
  induction k using Nat.strongRecOn with
  | _ k ih =>
    intro e j he hd hj
    rw [A.anc k e he] at hj
    obtain ⟨d, h1, h2, h3⟩ := anc_bits _ _ j hj
    have hlt := A.on_lt he h1 h2
    rcases h3 with rfl | h3
    · exact hd d h1 h2
    · have hkl := (List.getElem?_eq_some_iff.1 he).1
      have hf : T[d.on]? = some (T[d.on]'(by omega)) := List.getElem?_eq_getElem (by omega)
      have hg : ((T.take k).map (·.anc)).getD d.on 0 = (T[d.on]'(by omega)).anc := by
        rw [List.getD_eq_getElem?_getD, List.getElem?_map, List.getElem?_take, if_pos hlt, hf]; rfl
      rw [hg] at h3
      exact ih d.on hlt _ j hf (hcl d.on _ hf (hd d h1 h2)) h3
end
end
end Go.Proofs.YtkonkblfckhcbaaGreatDoor
namespace Go.Proofs.YtkonkblfckhcbaaGreatDoor
set_option linter.unusedVariables false
set_option linter.unusedSimpArgs false
open Go.RowKit

theorem RS.drew {σ0 : Sg} {G0 : Nat → AB} {W : World} {env : List AV} {H : List AB} {a : Act} {w : World} (h : RS σ0 G0 W env H a w) : RS σ0 G0 W env H a { w with drawn := w.drawn + 1 } := by
 obtain ⟨σ, h⟩ := h
 have hs : Stp σ (gv H) w [] (gv H) σ w.drew := .quiet (fun _ => Iff.rfl) rfl rfl (fun _ h => h) (Below.refl _ _).drew (fun _ h => .inl h) h.rel.rlt
 have e : updG (gv H) [] (gv H) = gv H := by funext b; simp [updG]
 refine ⟨σ, h.D, h.env.ext hs.ext, ?_, ?_, h.defers.stp h.rel hs⟩
 ·have := hs.rel h.rel; rwa [e] at this
 ·have := h.out.step h.rel hs; rwa [e] at this
section
variable {P : Program} {S : List Item → List AV → List AB → Prop} {Q : AV → List AB → Prop} {opsL : List Oper} {K : List AV → List AB → Tree} {env0 : List AV} {H0 : List AB} {T : List Ev}
/-- Does operation k write it? -/
def wrB (T : List Ev) (r k : Nat) : Bool := match T[k]? with
 | some e => e.wr.contains r
 | none => false
def xE (env0 : List AV) (T : List Ev) (t k : Nat) (σ : Sg) (w : World) (x : Value) : Prop := CA σ w ((stE env0 T k).getD t .junk) x
def xG (H0 : List AB) (T : List Ev) (b k : Nat) : AB := gv (stH H0 T k) b
theorem putE_off {env : List AV} {dst : Option Tmp} {v : AV} {t : Nat} (h : ∀ d, dst = some d → d ≠ t) : (putE env dst v).getD t .junk = env.getD t .junk := by
 cases dst with
 | none => rfl
 | some d => simp only [putE]; simp [List.getD_eq_getElem?_getD, List.getElem?_set_ne (h d rfl)]
theorem even_mem {t : Nat} {o : Oper} {l : List Nat} : 2 * t ∈ wrOf o ++ blkR l ↔ o.dst = some t := by
 unfold wrOf blkR
 cases o.dst with
 | none => simp; intro x _; omega
 | some d =>
  simp only [List.mem_append, List.mem_singleton, List.mem_map, Option.some.injEq]
  constructor
  ·rintro (h | ⟨x, _, h⟩)
   ·exact (Nat.eq_of_mul_eq_mul_left (by decide : 0 < 2) h).symm
   ·exfalso; omega
  ·intro h; left; rw [h]
theorem odd_mem {b : Nat} {o : Oper} {l : List Nat} : 2 * b + 1 ∈ wrOf o ++ blkR l ↔ b ∈ l := by
 unfold wrOf blkR
 cases o.dst with
 | none =>
  simp
  constructor
  ·rintro ⟨x, h1, h2⟩; obtain rfl : x = b := by omega
   exact h1
  ·exact fun h => ⟨b, h, rfl⟩
 | some d =>
  simp
  constructor
  ·rintro (h | ⟨x, h1, h2⟩)
   ·omega
   ·obtain rfl : x = b := by omega
    exact h1
  ·exact fun h => .inr ⟨b, h, rfl⟩
theorem odd_mem0 {b : Nat} {o : Oper} : ¬ 2 * b + 1 ∈ wrOf o := by
 have := odd_mem (b := b) (o := o) (l := [])
 simp [blkR] at this
 exact this
theorem even_mem0 {t : Nat} {o : Oper} : 2 * t ∈ wrOf o ↔ o.dst = some t := by
 have := even_mem (t := t) (o := o) (l := [])
 simpa [blkR] using this
theorem xE_keep (A : TrA P opsL env0 H0 T) (t : Nat) : ∀ k, wrB T (2 * t) k = false → xE env0 T t (k + 1) = xE env0 T t k := by
 intro k h
 unfold wrB at h
 unfold xE
 simp only [stE]
 cases hT : T[k]? with
 | none => rfl
 | some e =>
  rw [hT] at h
  simp only
  have hn : ¬ 2 * t ∈ e.wr := by simpa using h
  obtain ⟨_, env', hsp, hh⟩ := A.ok k e hT
  have heb := A.eb k e hT
  funext σ w x
  apply propext
  rw [← heb]
  rcases hh with ⟨_, v, rd, wr, _, ha, _, hw⟩ | ⟨_, ha, _, _, hw⟩
  ·rw [hw, even_mem] at hn
   rw [ha, putE_off (fun d hd hdt => hn (by rw [hd, hdt]))]
   exact hsp.2 t σ w x
  ·rw [hw, even_mem0] at hn
   rw [ha, putE_off (fun d hd hdt => hn (by rw [hd, hdt]))]
   exact hsp.2 t σ w x
theorem xG_keep (A : TrA P opsL env0 H0 T) (b : Nat) : ∀ k, wrB T (2 * b + 1) k = false → xG H0 T b (k + 1) = xG H0 T b k := by
 intro k h
 unfold wrB at h
 unfold xG
 simp only [stH]
 cases hT : T[k]? with
 | none => rfl
 | some e =>
  rw [hT] at h
  simp only
  have hn : ¬ 2 * b + 1 ∈ e.wr := by simpa using h
  obtain ⟨_, env', hsp, hh⟩ := A.ok k e hT
  rw [← A.Hb k e hT]
  rcases hh with ⟨_, v, rd, wr, hact, ha, _, hw⟩ | ⟨_, ha, hH, _, hw⟩
  ·rw [hw, odd_mem] at hn
   exact hact.off b hn
  ·rw [hH]
theorem stE_len (A : TrA P opsL env0 H0 T) : ∀ k, (stE env0 T k).length = env0.length := by
 intro k
 induction k with
 | zero => rfl
 | succ k ih =>
  simp only [stE]
  cases hT : T[k]? with
  | none => exact ih
  | some e =>
   simp only
   obtain ⟨_, env', hsp, hh⟩ := A.ok k e hT
   have heb := A.eb k e hT
   have hl : ∀ v, (putE env' e.o.dst v).length = env'.length := fun v => by cases e.o.dst <;> simp [putE]
   rcases hh with ⟨_, v, rd, wr, _, ha, _, hw⟩ | ⟨_, ha, _, _, hw⟩
   ·rw [ha, hl, hsp.1, heb]; exact ih
   ·rw [ha, hl, hsp.1, heb]; exact ih
theorem stH_mono (A : TrA P opsL env0 H0 T) : ∀ k, (stH H0 T k).length ≤ (stH H0 T (k + 1)).length := by
 intro k
 rw [show stH H0 T (k + 1) = match T[k]? with | some e => e.Ha | none => stH H0 T k from rfl]
 cases hT : T[k]? with
 | none => exact Nat.le_refl _
 | some e =>
  simp only
  rw [← A.Hb k e hT]
  exact (A.ok k e hT).len
theorem stH_le (A : TrA P opsL env0 H0 T) : ∀ j k, j ≤ k → (stH H0 T j).length ≤ (stH H0 T k).length := by
 intro j k h
 induction h with
 | refl => exact Nat.le_refl _
 | step _ ih => exact Nat.le_trans ih (stH_mono A _)
variable {σ0 : Sg} {G0 : Nat → AB} {W : World}
/-- Where it stands when the operations of 'Sb' have come up. -/
structure CS (σ0 : Sg) (G0 : Nat → AB) (W : World) (env0 : List AV) (H0 : List AB) (T : List Ev) (Sb : Nat → Bool) (a : Act) (w : World) (σ : Sg) : Prop where
 D : ∀ b, σ.D b → b < H0.length ∨ ∃ j e, Sb j = true ∧ T[j]? = some e ∧ 2 * b + 1 ∈ e.wr
 size : a.tmps.size = env0.length
 env : ∀ t, lastV Sb (wrB T (2 * t)) (xE env0 T t) T.length σ w (a.tmps.getD t undef)
 rel : RelG σ (fun b => lastV Sb (wrB T (2 * b + 1)) (xG H0 T b) T.length) w
 out : Out σ0 G0 W σ (fun b => lastV Sb (wrB T (2 * b + 1)) (xG H0 T b) T.length) w
 defers : DefOk σ W a.defers w
theorem meets_false {a b : List Nat} (h : meets a b = false) {x : Nat} (ha : x ∈ a) (hb : x ∈ b) : False := by
 unfold meets at h
 rw [List.any_eq_false] at h
 have := h x ha
 simp only [List.any_eq_true, not_exists, not_and] at this
 exact this x hb (Nat.beq_refl x)
theorem xE_mono {t k : Nat} {σ σ' : Sg} {w w' : World} {x : Value} (hx : Ext σ w σ' w') (h : xE env0 T t k σ w x) : xE env0 T t k σ' w' x := h.ext hx
theorem wr_lt (A : TrA P opsL env0 H0 T) {j b : Nat} {e : Ev} (hT : T[j]? = some e) (h : 2 * b + 1 ∈ e.wr) : b < (stH H0 T (j + 1)).length := by
 have e1 : stH H0 T (j + 1) = e.Ha := by simp only [stH, hT]
 rw [e1]
 obtain ⟨_, env', hsp, hh⟩ := A.ok j e hT
 rcases hh with ⟨_, v, rd, wr, hact, _, _, hw⟩ | ⟨_, _, _, _, hw⟩
 ·rw [hw, odd_mem] at h; exact hact.lt b h
 ·rw [hw] at h; exact absurd h odd_mem0
theorem cs_end (A : TrA P opsL env0 H0 T) {Sb : Nat → Bool} (hall : ∀ k, k < T.length → Sb k = true) {a : Act} {w : World} (h : ∃ σ, CS σ0 G0 W env0 H0 T Sb a w σ) : RS σ0 G0 W (stE env0 T T.length) (stH H0 T T.length) a w := by
 obtain ⟨σ, h⟩ := h
 have hg : (fun b => lastV Sb (wrB T (2 * b + 1)) (xG H0 T b) T.length) = gv (stH H0 T T.length) := by
  funext b
  rw [lastV_at (xG_keep A b) T.length T.length (Nat.le_refl _) (fun j hj _ => hall j hj) (fun j a b => by omega)]
  rfl
 have hrel := h.rel
 have hout := h.out
 rw [hg] at hrel hout
 refine ⟨σ, ?_, ⟨(stE_len A _).trans h.size.symm, fun t => ?_⟩, hrel, hout, h.defers⟩
 ·intro b hb
  rcases h.D b hb with h1 | ⟨j, e, _, hT, hw⟩
  ·exact Nat.lt_of_lt_of_le h1 (stH_le A 0 _ (by omega))
  ·exact Nat.lt_of_lt_of_le (wr_lt A hT hw) (stH_le A _ _ (List.getElem?_eq_some_iff.1 hT).1)
 ·have := h.env t
  rw [lastV_at (xE_keep A t) T.length T.length (Nat.le_refl _) (fun j hj _ => hall j hj) (fun j a b => by omega)] at this
  exact this
/-- One operation comes up. -/
theorem cs_step (A : TrA P opsL env0 H0 T) {Sb Sb' : Nat → Bool} {i : Nat} {e : Ev} (hTi : T[i]? = some e) (hi : Sb i = false) (hi' : Sb' i = true) (hS : ∀ j, j ≠ i → Sb' j = Sb j)
  (hF2 : ∀ r, r ∈ e.wr → ∀ j, i < j → j < T.length → Sb j = true → wrB T r j = false) {σ σ' : Sg} {a : Act} {w w' : World} (h : CS σ0 G0 W env0 H0 T Sb a w σ) {env' : List AV} (hsp : SPeq env' e.eb) {v : AV} {x : Value} {wr : List Nat}
  (hea : e.ea = putE env' e.o.dst v) (hwr : e.wr = wrOf e.o ++ blkR wr) (hoff : ∀ b, b ∉ wr → gv e.Ha b = gv e.Hb b)
  (hs : Stp σ (fun b => lastV Sb (wrB T (2 * b + 1)) (xG H0 T b) T.length) w wr (gv e.Ha) σ' w') (hv : CA σ' w' v x) : CS σ0 G0 W env0 H0 T Sb' (a.put e.o.dst x) w' σ' := by
 have hil := (List.getElem?_eq_some_iff.1 hTi).1
 have hlater : ∀ r, r ∈ e.wr → ∀ j, i < j → j < T.length → Sb' j = true → wrB T r j = false := fun r hr j h1 h2 h3 => hF2 r hr j h1 h2 (by rw [← hS j (by omega)]; exact h3)
 have wri : ∀ r, wrB T r i = e.wr.contains r := fun r => by simp [wrB, hTi]
 have hg : updG (fun b => lastV Sb (wrB T (2 * b + 1)) (xG H0 T b) T.length) wr (gv e.Ha) = fun b => lastV Sb' (wrB T (2 * b + 1)) (xG H0 T b) T.length := by
  funext b
  unfold updG
  by_cases hb : b ∈ wr
  ·rw [if_pos hb]
   have hm : 2 * b + 1 ∈ e.wr := by rw [hwr, odd_mem]; exact hb
   rw [lastV_on hi' (by rw [wri]; simpa using hm) _ hil (hlater _ hm)]
   simp only [xG, stH, hTi]
  ·rw [if_neg hb]
   have hm : ¬ 2 * b + 1 ∈ e.wr := by rw [hwr, odd_mem]; exact hb
   rw [lastV_off hS (by rw [wri]; simpa using hm)]
 have hrel := hs.rel h.rel
 have hout := h.out.step h.rel hs
 rw [hg] at hrel hout
 have hel : env'.length = env0.length := by rw [hsp.1, A.eb i e hTi, stE_len A]
 refine ⟨?_, ?_, ?_, hrel, hout, ?_⟩
 ·intro b hb
  rcases (hs.D b).1 hb with h1 | h1
  ·rcases h.D b h1 with h2 | ⟨j, f, h3, h4, h5⟩
   ·exact .inl h2
   ·refine .inr ⟨j, f, ?_, h4, h5⟩
    rw [hS j (by rintro rfl; rw [hi] at h3; cases h3)]; exact h3
  ·exact .inr ⟨i, e, hi', hTi, by rw [hwr, odd_mem]; exact h1⟩
 ·rw [← h.size]; cases e.o.dst <;> simp [Act.put]
 ·intro t
  by_cases hd : e.o.dst = some t
  ·have hm : 2 * t ∈ e.wr := by rw [hwr, even_mem]; exact hd
   rw [lastV_on hi' (by rw [wri]; simpa using hm) _ hil (hlater _ hm)]
   have h1 : EnvR σ' w' (List.replicate env'.length .junk) a.tmps := ⟨by simp [hel, h.size], fun t' => by
    have : (List.replicate env'.length AV.junk).getD t' .junk = .junk := by
     rw [List.getD_eq_getElem?_getD, List.getElem?_replicate]; split <;> rfl
    rw [this]; trivial⟩
   have h2 := (h1.put (dst := some t) hv).2 t
   show CA σ' w' ((stE env0 T (i + 1)).getD t .junk) _
   simp only [stE, hTi, hea, hd]
   by_cases ht : t < env'.length
   ·have e1 : (putE env' (some t) v).getD t .junk = v := by simp [putE, List.getD_eq_getElem?_getD, ht]
    have e2 : (putE (List.replicate env'.length AV.junk) (some t) v).getD t .junk = v := by simp [putE, List.getD_eq_getElem?_getD, ht]
    rw [e1]; rw [e2] at h2; exact h2
   ·have e1 : (putE env' (some t) v).getD t .junk = .junk := by
     rw [List.getD_eq_getElem?_getD, List.getElem?_eq_none (by simp only [putE, List.length_set]; exact Nat.le_of_not_lt ht)]; rfl
    rw [e1]; trivial
  ·have hm : ¬ 2 * t ∈ e.wr := by rw [hwr, even_mem]; exact hd
   rw [lastV_off hS (by rw [wri]; simpa using hm)]
   have e1 : (a.put e.o.dst x).tmps.getD t undef = a.tmps.getD t undef := by
    cases hdd : e.o.dst with
    | none => rfl
    | some d =>
     have hne : d ≠ t := by rintro rfl; exact hd hdd
     simp [Act.put, Array.getElem?_setIfInBounds_ne hne]
   rw [e1]
   exact lastV_all (p := fun (f : Sg → World → Value → Prop) => f σ w (a.tmps.getD t undef) → f σ' w' (a.tmps.getD t undef)) (fun k hk => xE_mono hs.ext hk) T.length (h.env t)
 ·have hq := h.defers.stp h.rel hs
  cases hdd : e.o.dst <;> simpa [Act.put, hdd] using hq
theorem ops_draw (opsA : Array Oper) (A : TrA P opsA.toList env0 H0 T) (hT : T.length = opsA.size) (Qc : Exit → Act → World → Prop) (hend : ∀ a w, RS σ0 G0 W (stE env0 T T.length) (stH H0 T T.length) a w → Qc .normal a w) :
  ∀ (fuel : Nat) (listed : Array Bool) (a : Act) (w : World), listed.size = opsA.size → cnt (fun k => listed.getD k false) opsA.size ≤ fuel →
   (∀ k e, T[k]? = some e → listed.getD k false = true → ∀ d ∈ e.o.after.toList, Region.binds .any d = true → listed.getD d.on false = true) →
   (∃ σ, CS σ0 G0 W env0 H0 T (fun k => listed.getD k false) a w σ) → wpAny P .any opsA Qc fuel listed a w := by
 intro fuel
 induction fuel with
 | zero =>
  intro listed a w hls hc hcl hs
  have hall := cnt_zero (S := fun k => listed.getD k false) opsA.size (by omega)
  refine ⟨?_, ?_⟩
  ·rw [List.eq_nil_iff_forall_not_mem]
   intro i hi
   obtain ⟨h1, o, h2, _⟩ := mem_ready.1 hi
   have hlt := (Array.getElem?_eq_some_iff.1 h2).1
   have h3 := hall i hlt
   simp [hls, hlt] at h1 h3
   rw [h1] at h3; cases h3
  ·exact hend a w (cs_end A (fun k hk => hall k (by omega)) hs)
 | succ fuel ih =>
  intro listed a w hls hc hcl hs
  refine ⟨fun hnil => ?_, fun i hi => ?_⟩
  ·refine hend a w (cs_end A (fun k hk => ?_) hs)
   induction k using Nat.strongRecOn with
   | _ k ihk =>
    cases hk2 : listed.getD k false with
    | true => rfl
    | false =>
     exfalso
     have hTk : T[k]? = some T[k] := List.getElem?_eq_getElem hk
     have hok := A.op k _ hTk
     have : k ∈ Region.ready .any opsA listed := mem_ready.2 ⟨by simp [hls, show k < opsA.size by omega] at hk2 ⊢; exact hk2, T[k].o, by simpa using hok, fun d hd hb => ihk d.on (A.on_lt hTk (by simpa using hd) hb) (by have := A.on_lt hTk (by simpa using hd) hb; omega)⟩
     rw [hnil] at this
     cases this
  ·obtain ⟨h1, o, hoi, hedges⟩ := mem_ready.1 hi
   have hlt := (Array.getElem?_eq_some_iff.1 hoi).1
   have hTi : T[i]? = some T[i] := List.getElem?_eq_getElem (by omega)
   generalize he : T[i] = e at hTi
   have heo : e.o = o := by
    have := A.op i e hTi
    rw [Array.getElem?_toList, hoi] at this
    injection this with this
    exact this.symm
   have hSi : listed.getD i false = false := by simp [hls, hlt] at h1 ⊢; exact h1
   have hSi' : (listed.setIfInBounds i true).getD i false = true := by simp [hls, hlt]
   have hSj : ∀ j, j ≠ i → (listed.setIfInBounds i true).getD j false = listed.getD j false := fun j hj => getD_set_ne _ (fun h => hj h.symm)
   have hed : ∀ d ∈ e.o.after.toList, Region.binds .any d = true → listed.getD d.on false = true := fun d hd hb => hedges d (by rw [← heo]; simpa using hd) hb
   have F1 : ∀ r, r ∈ e.rd ++ e.wr → ∀ j, j < i → wrB T r j = true → listed.getD j false = true := fun r hr j hj hw => by
    have hTj : T[j]? = some T[j] := List.getElem?_eq_getElem (by omega)
    have hw' : r ∈ T[j].wr := by simpa [wrB, hTj] using hw
    rcases A.clr i j e _ hTi hTj hj with hb | ⟨hm, _⟩
    ·exact A.closed (Sb := fun k => listed.getD k false) hcl i e j hTi hed hb
    ·exact (meets_false hm hw' hr).elim
   have F2 : ∀ r, r ∈ e.rd ++ e.wr → ∀ j, i < j → j < T.length → listed.getD j false = true → wrB T r j = false := fun r hr j hj hjl hSjt => by
    have hTj : T[j]? = some T[j] := List.getElem?_eq_getElem hjl
    cases hw : wrB T r j with
    | false => rfl
    | true =>
     exfalso
     have hw' : r ∈ T[j].wr := by simpa [wrB, hTj] using hw
     rcases A.clr j i _ e hTj hTi hj with hb | ⟨hm1, hm2⟩
     ·have : listed.getD i false = true := A.closed (Sb := fun k => listed.getD k false) hcl j _ i hTj (hcl j _ hTj hSjt) hb
      rw [hSi] at this; cases this
     ·rcases List.mem_append.1 hr with hr | hr
      ·exact meets_false hm2 hw' hr
      ·exact meets_false hm1 hr (List.mem_append_right _ hw')
   obtain ⟨σ, hcs⟩ := hs
   have valE : ∀ t, 2 * t ∈ e.rd ++ e.wr → CA σ w (e.eb.getD t .junk) (a.tmps.getD t undef) := fun t ht => by
    have := hcs.env t
    rw [lastV_at (xE_keep A t) i T.length (by omega) (F1 _ ht) (fun j h1 h2 h3 => by
     rcases Nat.lt_or_ge i j with h | h
     ·exact F2 _ ht j h h2 h3
     ·obtain rfl : j = i := by omega
      rw [hSi] at h3; cases h3)] at this
    rw [A.eb i e hTi]
    exact this
   have valG : ∀ b, 2 * b + 1 ∈ e.rd ++ e.wr → lastV (fun k => listed.getD k false) (wrB T (2 * b + 1)) (xG H0 T b) T.length = gv e.Hb b := fun b hb => by
    rw [lastV_at (xG_keep A b) i T.length (by omega) (F1 _ hb) (fun j h1 h2 h3 => by
     rcases Nat.lt_or_ge i j with h | h
     ·exact F2 _ hb j h h2 h3
     ·obtain rfl : j = i := by omega
      rw [hSi] at h3; cases h3), A.Hb i e hTi]
    rfl
   have wanted : ∀ go, GuardIs opsA.toList e.o e.eb go → (∀ x, x ∈ rdOf opsA.toList e.o → x ∈ e.rd) → Region.wanted o (yielded opsA a.tmps) = go := fun go hg hrd => by
    rw [← heo]
    rcases hg with ⟨hg, rfl⟩ | ⟨j, want, d, b, hg, hd, hb⟩
    ·simp [Region.wanted, hg]
    ·have hm : 2 * d ∈ e.rd := hrd _ (by simp [rdOf, hg, hd])
     have hv := valE d (List.mem_append_left _ hm)
     have hd' : (opsA[j]?).bind (·.dst) = some d := by simpa [dstOf] using hd
     have live : a.tmps.getD d undef = .bool b → yielded opsA a.tmps j = some b := fun hv => by
      have hs : a.tmps[d]? = some (.bool b) := by
       by_cases hdl : d < a.tmps.size
       ·simp [hdl] at hv; simp [hdl, hv]
       ·simp [hdl, undef] at hv
      unfold yielded
      rw [hd']
      simp only [Option.bind_some, hs]
     rcases hb with ⟨hb, rfl⟩ | ⟨hb, rfl⟩ | ⟨hb, rfl⟩
     ·have hy := live (by rw [hb] at hv; exact hv)
      simp [Region.wanted, hg, hy]
     ·have hy := live (by rw [hb] at hv; exact hv)
      simp [Region.wanted, hg, hy]
     ·have hu : a.tmps.getD d undef = undef := by
       rw [hb] at hv
       obtain ⟨vs, h2, h3⟩ := hv
       have h4 : vs.toList = [] := List.eq_nil_of_length_eq_zero h3.1.symm
       have h5 : vs = #[] := by simpa using h4
       rw [h2, h5]; rfl
      have hy := yielded_gone hd' hu
      simp [Region.wanted, hg, hy]
   have after : ∀ (a' : Act) (w' : World) (σ' : Sg), CS σ0 G0 W env0 H0 T (fun k => (listed.setIfInBounds i true).getD k false) a' w' σ' → wpAny P .any opsA Qc fuel (listed.setIfInBounds i true) a' w' := fun a' w' σ' h => by
    refine ih _ a' w' (by simp [hls]) ?_ ?_ ⟨σ', h⟩
    ·have := cnt_set (S := fun k => listed.getD k false) (S' := fun k => (listed.setIfInBounds i true).getD k false) hSi hSi' hSj opsA.size
     rw [if_pos hlt] at this
     omega
    ·intro k f hf hk d hd hb
     have hmono : ∀ q, listed.getD q false = true → (listed.setIfInBounds i true).getD q false = true := fun q hq => getD_set_true hq
     by_cases hki : k = i
     ·subst hki
      rw [hTi] at hf
      injection hf with hf
      subst hf
      exact hmono _ (hed d hd hb)
     ·rw [hSj k hki] at hk
      exact hmono _ (hcl k f hf hk d hd hb)
   unfold wpOp
   simp only [hoi]
   obtain ⟨hlen, env', hsp, hh⟩ := A.ok i e hTi
   rcases hh with ⟨hg, v, rd, wr, hact, hea, hrd, hwr⟩ | ⟨hg, hea, hHa, hrd, hwr⟩
   ·rw [if_pos (wanted true hg (fun x hx => by rw [hrd]; exact List.mem_append_left _ hx))]
    left
    have hto := hact.act σ (fun b => lastV (fun k => listed.getD k false) (wrB T (2 * b + 1)) (xG H0 T b) T.length) a w (fun x hx => by
     cases x with
     | tmp t =>
      have hm : 2 * t ∈ e.rd ++ e.wr := by
       rw [hrd]
       refine List.mem_append_left _ (List.mem_append_left _ ?_)
       unfold rdOf
       refine List.mem_append_left _ (List.mem_flatMap.2 ⟨.tmp t, by simpa using hx, by simp [tmpOf]⟩)
      exact (hsp.2 t σ w _).2 (valE t hm)
     | const c => exact constV_ok c
     | global g => exact glob_ok hcs.rel.glob g
     | func f => exact rfl) (fun b hb => valG b (by
      rcases hb with hb | hb
      ·rw [hrd]; exact List.mem_append_left _ (List.mem_append_right _ (List.mem_map.2 ⟨b, hb, rfl⟩))
      ·rw [hwr]; exact List.mem_append_right _ (List.mem_append_right _ (List.mem_map.2 ⟨b, hb, rfl⟩)))) (fun b hb hbl hD => by
     have hbw : 2 * b + 1 ∈ e.wr := by rw [hwr, odd_mem]; exact hb
     rw [A.Hb i e hTi] at hbl
     rcases hcs.D b hD with h | ⟨j, f, h3, h4, h5⟩
     ·have := stH_le A 0 i (by omega)
      simp only [stH] at this
      omega
     ·have hjl := (List.getElem?_eq_some_iff.1 h4).1
      rcases Nat.lt_trichotomy j i with h | h | h
      ·have := wr_lt A h4 h5
       have := stH_le A (j + 1) i h
       omega
      ·subst h; rw [hSi] at h3; cases h3
      ·have := F2 _ (List.mem_append_right _ hbw) j h hjl h3
       simp [wrB, h4] at this
       exact this h5) hcs.rel
    rw [← heo]
    refine hto _ _ fun x w' ⟨σ', hs, hv⟩ => ?_
    exact after _ w' σ' (cs_step A hTi hSi hSi' hSj (fun r hr => F2 r (List.mem_append_right _ hr)) hcs hsp hea hwr hact.off hs hv)
   ·rw [if_neg (by rw [wanted false hg (fun x hx => by rw [hrd]; exact hx)]; simp), ← heo]
    refine after _ w σ (cs_step A (wr := []) hTi hSi hSi' hSj (fun r hr => F2 r (List.mem_append_right _ hr)) hcs hsp hea (by rw [hwr]; simp [blkR]) (fun b _ => by rw [hHa]) ?_ (x := undef) (v := .tup []) undef_ok)
    exact ⟨fun b => by simp, Ext.refl _ _, Chg.refl _ _, fun b hb => (by cases hb), fun b hb => (by cases hb), fun b hb => (by cases hb), fun k h => .inl h, fun b hb => (by cases hb), hcs.rel.rlt, fun b hb => (by cases hb), fun _ _ _ => rfl⟩
end
end Go.Proofs.YtkonkblfckhcbaaGreatDoor
namespace Go.Proofs.YtkonkblfckhcbaaGreatDoor
set_option linter.unusedVariables false
set_option linter.unusedSimpArgs false
open Go.RowKit

/-- Whatever the machine's state is, it comes to the function's end, with 'Q'. -/
def RunN (n0 : Nat) (P : Program) (f : FuncId) (Q : AV → List AB → Prop) (todo : List Item) (env : List AV) (H : List AB) : Prop :=
 ∀ (σ0 : Sg) (G0 : Nat → AB) (W : World) (b : Frame) (a : Act) (w : World) (cs : List Frame), (∀ k, σ0.D k → k < n0) → b.fn = f → b.kind = .normal → RS σ0 G0 W env H a w →
  ∃ v w' fr r H' σ', Q r H' ∧ (∀ n, σ'.D n → n < H'.length) ∧ RelG σ' (gv H') w' ∧ Out σ0 G0 W σ' (gv H') w' ∧ CA σ' w' r v ∧ Steps P (lone (b.at a todo) cs w) (lone fr cs w') ∧ fr.fn = f ∧ fr.leaving P w' (.returned v)
theorem RunN.step {n0 : Nat} {P : Program} {f : FuncId} {Q : AV → List AB → Prop} {todo todo' : List Item} {env : List AV} {H : List AB} (h : RunN n0 P f Q todo' env H) (hs : ∀ (b : Frame) (a : Act) (cs : List Frame) (w : World), step P (lone (b.at a todo) cs w) = .next (lone (b.at a todo') cs w)) : RunN n0 P f Q todo env H :=
 fun σ0 G0 W b a w cs h0 h1 h2 h3 => by
  obtain ⟨v, w', fr, r, H', σ', q1, q2, q3, q4, q5, q6, q7⟩ := h σ0 G0 W b a w cs h0 h1 h2 h3
  exact ⟨v, w', fr, r, H', σ', q1, q2, q3, q4, q5, .head (hs b a cs w) q6, q7⟩
/-- The first step, taken back. -/
theorem RunN.into {n0 : Nat} {P : Program} {f : FuncId} {Q : AV → List AB → Prop} {c : Code} {k : List Item} {env : List AV} {H : List AB} (h : RunN n0 P f Q (.inLoop c :: k) env H) : RunN n0 P f Q (.code c :: .inLoop c :: k) env H :=
 fun σ0 G0 W b a w cs h0 h1 h2 h3 => by
  obtain ⟨v, w', fr, r, H', σ', q1, q2, q3, q4, q5, ⟨n, q6⟩, q7, q8⟩ := h σ0 G0 W b a w cs h0 h1 h2 h3
  refine ⟨v, w', fr, r, H', σ', q1, q2, q3, q4, q5, ?_, q7, q8⟩
  cases n with
  | zero =>
   exfalso
   simp only [runN, Stepped.next.injEq] at q6
   have e : fr.mode = .run := by
    have := congrArg (fun m : Machine => (m.gs[0]?).map (·.frame.mode)) q6
    simp [lone, Frame.at] at this
    exact this.symm
   have := q8.1
   rw [e] at this
   cases this
  | succ n =>
   refine ⟨n, ?_⟩
   simp only [runN] at q6
   rw [step_inLoop] at q6
   exact q6
theorem maskE_len : ∀ (lv : List Bool) (env : List AV), (maskE lv env).length = env.length := by
 intro lv
 induction lv with
 | nil => intro env; simp [maskE]
 | cons x lv ih =>
  intro env
  cases env with
  | nil => cases x <;> simp [maskE]
  | cons y env => cases x <;> simpa [maskE] using ih env
theorem maskE_key : ∀ (lv : List Bool) (env : List AV) (t : Nat), (maskE lv env).getD t .junk = env.getD t .junk ∨ (maskE lv env).getD t .junk = .junk := by
 intro lv
 induction lv with
 | nil => intro env t; exact .inl (by simp [maskE])
 | cons x lv ih =>
  intro env t
  cases env with
  | nil => right; cases x <;> simp [maskE]
  | cons y env =>
   cases t with
   | zero => cases x <;> simp [maskE]
   | succ t => cases x <;> simpa [maskE] using ih env t
theorem RunN.mask {n0 : Nat} {P : Program} {f : FuncId} {Q : AV → List AB → Prop} {todo : List Item} {env : List AV} {H : List AB} {lv : List Bool} (h : RunN n0 P f Q todo (maskE lv env) H) : RunN n0 P f Q todo env H :=
 fun σ0 G0 W b a w cs h0 h1 h2 h3 => by
  refine h σ0 G0 W b a w cs h0 h1 h2 ?_
  obtain ⟨σ, h3⟩ := h3
  refine ⟨σ, h3.D, ⟨(maskE_len lv env).trans h3.env.1, fun t => ?_⟩, h3.rel, h3.out, h3.defers⟩
  rcases maskE_key lv env t with e | e
  ·rw [e]; exact h3.env.2 t
  ·rw [e]; trivial
/-! names that are given up or changed -/
def posOf : List Nat → Nat → Option Nat
 | [], _ => none
 | a :: r, b => if Nat.beq a b then some 0 else (posOf r b).map (· + 1)
theorem posOf_some : ∀ {gl : List Nat} {b k : Nat}, posOf gl b = some k → gl[k]? = some b
 | a :: r, b, k, h => by
  unfold posOf at h
  split at h
  ·rename_i he
   injection h with h
   subst h
   simpa using Nat.eq_of_beq_eq_true he
  ·obtain ⟨q, hq, rfl⟩ := Option.map_eq_some_iff.1 h
   simpa using posOf_some hq
def renC (gl : List Nat) : CV → CV
 | .sl b s i n => match posOf gl b with
  | some k => .sl k s i n
  | none => .junk
 | .pre b s n => match posOf gl b with
  | some k => .pre k s n
  | none => .junk
 | .osl b s n => match posOf gl b with
  | some k => .osl k s n
  | none => .junk
 | .ptr b s i j => match posOf gl b with
  | some k => .ptr k s i j
  | none => .junk
 | .map b => match posOf gl b with
  | some k => .map k
  | none => .junk
 | .fnc g c => .fnc (renC gl g) (renC gl c)
 | c => c
def ren1 (gl : List Nat) : A1 → A1
 | .c c => .c (renC gl c)
 | .agg cs => .agg (cs.map (renC gl))
def renA (gl : List Nat) : AV → AV
 | .junk => .junk
 | .one a => .one (ren1 gl a)
 | .tup l => .tup (l.map (ren1 gl))
def mapH (f : CV → CV) : List (Nat × CV) → List (Nat × CV)
 | [] => []
 | p :: r => (p.1, f p.2) :: mapH f r
theorem holeAt_map (f : CV → CV) : ∀ (hs : List (Nat × CV)) (j : Nat), holeAt (mapH f hs) j = (holeAt hs j).map f
 | [], _ => rfl
 | p :: r, j => by
  simp only [mapH, holeAt]
  split
  ·rfl
  ·exact holeAt_map f r j
theorem mdOf_map (f : CV → CV) (ko : Option (Nat × Nat)) (hi : Nat) (hs : List (Nat × CV)) (i : Nat) : mdOf ko hi (mapH f hs) i = mdOf ko hi hs i := by
 funext j
 unfold mdOf
 rw [holeAt_map]
 cases holeAt hs j <;> rfl
def renB (gl : List Nat) : AB → AB
 | .cells e cs => .cells e (cs.map (renC gl))
 | .nest e s xs ko hi hs => .nest e s xs ko hi (mapH (renC gl) hs)
 | b => b
def renS (gl : List Nat) (σ : Sg) : Sg := ⟨fun k => σ.ι (gl.getD k 0), fun k => k < gl.length ∧ σ.D (gl.getD k 0), σ.R, fun k => σ.F (gl.getD k 0)⟩
theorem renC_ok {gl : List Nat} {σ : Sg} {w : World} {c : CV} : ∀ {v : Value}, CC σ w c v → CC (renS gl σ) w (renC gl c) v := by
 have at_ : ∀ {b k : Nat}, posOf gl b = some k → k < gl.length ∧ gl.getD k 0 = b := fun {b k} hk => by
  have := posOf_some hk
  exact ⟨(List.getElem?_eq_some_iff.1 this).1, by simp [List.getD_eq_getElem?_getD, this]⟩
 induction c with
 | fnc g c ihg ihc =>
  intro v h
  obtain ⟨f, cs, u, hv, h1, h2⟩ := h
  exact ⟨f, cs, u, hv, ihg h1, ihc h2⟩
 | sl b s i n =>
  intro v h
  have h1 := h.one
  unfold renC
  split
  ·rename_i k hk
   obtain ⟨hl, he⟩ := at_ hk
   simp only [CC, renS, he] at h ⊢
   exact ⟨⟨hl, h.1⟩, h.2⟩
  ·exact h1
 | pre b s n =>
  intro v h
  have h1 := h.one
  unfold renC
  split
  ·rename_i k hk
   obtain ⟨hl, he⟩ := at_ hk
   simp only [CC, renS, he] at h ⊢
   exact ⟨⟨hl, h.1⟩, h.2⟩
  ·exact h1
 | osl b s n =>
  intro v h
  have h1 := h.one
  unfold renC
  split
  ·rename_i k hk
   obtain ⟨hl, he⟩ := at_ hk
   simp only [CC, renS, he] at h ⊢
   split
   ·rename_i h0; rw [if_pos h0] at h; exact h
   ·rename_i h0; rw [if_neg h0] at h; exact ⟨⟨hl, h.1⟩, h.2⟩
  ·exact h1
 | ptr b s i j =>
  intro v h
  have h1 := h.one
  unfold renC
  split
  ·rename_i k hk
   obtain ⟨hl, he⟩ := at_ hk
   simp only [CC, renS, he] at h ⊢
   exact ⟨⟨hl, h.1⟩, h.2⟩
  ·exact h1
 | map b =>
  intro v h
  have h1 := h.one
  unfold renC
  split
  ·rename_i k hk
   obtain ⟨hl, he⟩ := at_ hk
   simp only [CC, renS, he] at h ⊢
   exact ⟨⟨hl, h.1⟩, h.2⟩
  ·exact h1
 | _ => intro v h; exact h
theorem renA_ok {gl : List Nat} {σ : Sg} {w : World} {c : AV} {v : Value} (h : CA σ w c v) : CA (renS gl σ) w (renA gl c) v := by
 have h1 : ∀ {a : A1} {v : Value}, CA1 σ w a v → CA1 (renS gl σ) w (ren1 gl a) v := fun {a v} h => by
  cases a with
  | c c => exact renC_ok h
  | agg cs =>
   obtain ⟨vs, hv, hc⟩ := h
   exact ⟨vs, hv, by simpa using hc.1, fun i x y hx hy => by
    rw [List.getElem?_map] at hx
    obtain ⟨q, hq, rfl⟩ := Option.map_eq_some_iff.1 hx
    exact renC_ok (hc.2 i q y hq hy)⟩
 cases c with
 | junk => trivial
 | one a => exact h1 h
 | tup l =>
  obtain ⟨vs, hv, hc⟩ := h
  exact ⟨vs, hv, by simpa using hc.1, fun i x y hx hy => by
   rw [List.getElem?_map] at hx
   obtain ⟨q, hq, rfl⟩ := Option.map_eq_some_iff.1 hx
   exact h1 (hc.2 i q y hq hy)⟩
theorem renB_ok {gl : List Nat} {σ : Sg} {w : World} {b : Nat} {φ : Nat → Prop} {B : AB} (h : Blk σ w b φ B) : Blk (renS gl σ) w b φ (renB gl B) := by
 cases B with
 | dead => trivial
 | cells e cs =>
  obtain ⟨c, hc, hcs⟩ := h
  exact ⟨c, hc, by simpa using hcs.1, fun i x y hx hy => by
   rw [List.getElem?_map] at hx
   obtain ⟨q, hq, rfl⟩ := Option.map_eq_some_iff.1 hx
   exact renC_ok (hcs.2 i q y hq hy)⟩
 | vec e t xs => exact h
 | ovec e t xs => exact h
 | map k kt et n m => exact h
 | nest e s xs ko hi hs =>
  obtain ⟨c, h1, h2, χ, h3, h4, h5, h6⟩ := h
  refine ⟨c, h1, h2, χ, h3, h4, fun i y hy => ?_, fun j v y e' s' ys hv hl hsl => ?_⟩
  ·rw [mdOf_map]; exact h5 i y hy
  ·rw [holeAt_map] at hv
   obtain ⟨q, hq, rfl⟩ := Option.map_eq_some_iff.1 hv
   obtain ⟨u, hu, hc⟩ := h6 j q y e' s' ys hq hl hsl
   exact ⟨u, hu, renC_ok hc⟩
/-- A block as it is written. -/
def rgv (H : List AB) (b : Nat) : AB := H.getD b .dead
theorem gv_rgv (H : List AB) (b : Nat) : gv H b = nrm (rgv H b) := rfl
theorem nrm_renB (gl : List Nat) (B : AB) : nrm (renB gl B) = renB gl (nrm B) := by
 cases B with
 | ovec e t xs => cases xs <;> rfl
 | nest e s xs ko hi hs => cases xs <;> rfl
 | _ => rfl
/-- Known bools, no more known. -/
def unC : CV → CV
 | .lit b => .bool b
 | c => c
def un1 : A1 → A1
 | .c c => .c (unC c)
 | .agg cs => .agg (cs.map unC)
def unA : AV → AV
 | .one a => .one (un1 a)
 | a => a
def unB : AB → AB
 | .cells e cs => .cells e (cs.map unC)
 | b => b
def unE : List Bool → List AV → List AV
 | true :: l, a :: r => unA a :: unE l r
 | false :: l, a :: r => a :: unE l r
 | [], r => r
 | _ :: _, [] => []
def unH : List Bool → List AB → List AB
 | true :: l, a :: r => unB a :: unH l r
 | false :: l, a :: r => a :: unH l r
 | [], r => r
 | _ :: _, [] => []
theorem unC_ok {σ : Sg} {w : World} {c : CV} {v : Value} (h : CC σ w c v) : CC σ w (unC c) v := by cases c <;> exact h
theorem unCs_ok {σ : Sg} {w : World} {cs : List CV} {vs : List Value} (h : CCs σ w cs vs) : CCs σ w (cs.map unC) vs := ⟨by simpa using h.1, fun i x y hx hy => by
 rw [List.getElem?_map] at hx
 obtain ⟨q, hq, rfl⟩ := Option.map_eq_some_iff.1 hx
 exact unC_ok (h.2 i q y hq hy)⟩
theorem unA_ok {σ : Sg} {w : World} {a : AV} {v : Value} (h : CA σ w a v) : CA σ w (unA a) v := by
 cases a with
 | junk => trivial
 | tup l => exact h
 | one a =>
  cases a with
  | c c => exact unC_ok h
  | agg cs => obtain ⟨vs, hv, hc⟩ := h; exact ⟨vs, hv, unCs_ok hc⟩
theorem unE_ok {σ : Sg} {w : World} : ∀ {l : List Bool} {env : List AV} {v : Value} {t : Nat}, CA σ w (env.getD t .junk) v → CA σ w ((unE l env).getD t .junk) v
 | [], env, v, t, h => h
 | b :: _, [], v, t, h => by cases b <;> exact h
 | true :: l, a :: r, v, 0, h => unA_ok (a := a) h
 | false :: l, a :: r, v, 0, h => h
 | true :: l, a :: r, v, t + 1, h => unE_ok (l := l) (env := r) (t := t) h
 | false :: l, a :: r, v, t + 1, h => unE_ok (l := l) (env := r) (t := t) h
theorem unE_len : ∀ (l : List Bool) (env : List AV), (unE l env).length = env.length
 | [], _ => rfl
 | b :: _, [] => by cases b <;> rfl
 | true :: l, a :: r => by simp [unE, unE_len l r]
 | false :: l, a :: r => by simp [unE, unE_len l r]
theorem nrm_unB (B : AB) : nrm (unB B) = unB (nrm B) := by
 cases B with
 | ovec e t xs => cases xs <;> rfl
 | nest e s xs ko hi hs => cases xs <;> rfl
 | _ => rfl
theorem unH_get : ∀ (l : List Bool) (H : List AB) (k : Nat), gv (unH l H) k = gv H k ∨ gv (unH l H) k = unB (gv H k)
 | [], _, _ => .inl rfl
 | b :: _, [], _ => by cases b <;> exact .inl rfl
 | true :: l, a :: r, 0 => .inr (nrm_unB a)
 | false :: l, a :: r, 0 => .inl rfl
 | true :: l, a :: r, k + 1 => unH_get l r k
 | false :: l, a :: r, k + 1 => unH_get l r k
theorem unH_len : ∀ (l : List Bool) (H : List AB), (unH l H).length = H.length
 | [], _ => rfl
 | b :: _, [] => by cases b <;> rfl
 | true :: l, a :: r => by simp [unH, unH_len l r]
 | false :: l, a :: r => by simp [unH, unH_len l r]
theorem RunN.un {n0 : Nat} {P : Program} {f : FuncId} {Q : AV → List AB → Prop} {todo : List Item} {env : List AV} {H : List AB} (l l' : List Bool) (h : RunN n0 P f Q todo (unE l env) (unH l' H)) : RunN n0 P f Q todo env H := fun σ0 G0 W b a w cs h0 h1 h2 h3 => by
 refine h σ0 G0 W b a w cs h0 h1 h2 ?_
 obtain ⟨σ, h3⟩ := h3
 have nd : ∀ k, gv (unH l' H) k ≠ .dead → gv H k ≠ .dead := fun k hk hd => by
  rcases unH_get l' H k with e | e <;> rw [hd] at e
  ·exact hk e
  ·exact hk e
 exact ⟨σ, fun b hb => by rw [unH_len]; exact h3.D b hb, ⟨(unE_len _ _).trans h3.env.1, fun t => unE_ok (h3.env.2 t)⟩, ⟨fun b hb => h3.rel.dom b (nd b hb), fun b hb => by
  have h4 := h3.rel.blk b (nd b hb)
  rcases unH_get l' H b with e | e
  ·rw [e]; exact h4
  ·rw [e]
   cases hB : gv H b with
   | dead => trivial
   | vec e t xs => rw [hB] at h4; exact h4
   | ovec e t xs => rw [hB] at h4; exact h4
   | map k kt et n m => rw [hB] at h4; exact h4
   | nest e s xs ko hi hs => rw [hB] at h4; exact h4
   | cells e cs =>
    rw [hB] at h4
    obtain ⟨c, hc, hcs⟩ := h4
    exact ⟨c, hc, unCs_ok hcs⟩, fun b b' hb hb' => h3.rel.injF b b' (nd b hb) (nd b' hb'), fun b hb => h3.rel.outF b (nd b hb), h3.rel.rlt, h3.rel.glob, fun b hb => h3.rel.flt b (nd b hb)⟩, ⟨h3.out.chg, h3.out.ext, fun b hb => h3.out.locF b (nd b hb), h3.out.R⟩, h3.defers⟩
theorem RunN.keep {n0 : Nat} {P : Program} {f : FuncId} {Q : AV → List AB → Prop} {todo : List Item} {env env' : List AV} {H H' : List AB} (gl : List Nat) (lv : List Bool) (hn : ∀ k, k < n0 → gl[k]? = some k) (hnd : gl.Nodup) (hE : maskE lv (env.map (renA gl)) = env') (hH : gl.map (fun b => renB gl (rgv H b)) = H')
  (h : RunN n0 P f Q todo env' H') : RunN n0 P f Q todo env H := fun σ0 G0 W b a w cs h0 h1 h2 h3 => by
 refine h σ0 G0 W b a w cs h0 h1 h2 ?_
 obtain ⟨σ, h3⟩ := h3
 subst hE
 subst hH
 have gk : ∀ k, gv (gl.map (fun b => renB gl (rgv H b))) k ≠ .dead → k < gl.length ∧ gv H (gl.getD k 0) ≠ .dead ∧ gv (gl.map (fun b => renB gl (rgv H b))) k = renB gl (gv H (gl.getD k 0)) := fun k hk => by
  by_cases hl : k < gl.length
  ·have e : gv (gl.map (fun b => renB gl (rgv H b))) k = renB gl (gv H (gl.getD k 0)) := by
    rw [gv_rgv H, ← nrm_renB]
    refine gv_some ?_
    simp [List.getElem?_map, List.getElem?_eq_getElem hl, List.getD_eq_getElem?_getD]
   refine ⟨hl, fun hd => hk ?_, e⟩
   rw [e, hd]; rfl
  ·exact absurd (gv_none (by rw [List.getElem?_map, List.getElem?_eq_none (Nat.le_of_not_lt hl)]; rfl)) hk
 refine ⟨renS gl σ, fun b hb => by simpa using hb.1, ⟨(maskE_len _ _).trans ((List.length_map _).trans h3.env.1), fun t => ?_⟩, ⟨fun b hb => ?_, fun b hb => ?_, fun b b' hb hb' q he he' => ?_, fun b hb q hq => ?_, h3.rel.rlt, h3.rel.glob, fun b hb => h3.rel.flt _ (gk b hb).2.1⟩, ⟨h3.out.chg, ⟨fun k hk => ?_, h3.out.ext.R, h3.out.ext.keep, h3.out.ext.shape⟩, fun b hb q hq => ?_, h3.out.R⟩, h3.defers⟩
 ·rcases maskE_key lv (env.map (renA gl)) t with e | e
  ·rw [e]
   have e2 : (env.map (renA gl)).getD t .junk = renA gl (env.getD t .junk) := by
    simp only [List.getD_eq_getElem?_getD, List.getElem?_map]
    cases env[t]? <;> rfl
   rw [e2]
   exact renA_ok (h3.env.2 t)
  ·rw [e]; trivial
 ·obtain ⟨hl, hd, _⟩ := gk b hb
  exact ⟨hl, h3.rel.dom _ hd⟩
 ·obtain ⟨hl, hd, e⟩ := gk b hb
  rw [e]
  exact renB_ok (h3.rel.blk _ hd)
 ·obtain ⟨hl, hd, _⟩ := gk b hb
  obtain ⟨hl', hd', _⟩ := gk b' hb'
  have := h3.rel.injF _ _ hd hd' q he he'
  rw [List.getD_eq_getElem?_getD, List.getD_eq_getElem?_getD, List.getElem?_eq_getElem hl, List.getElem?_eq_getElem hl'] at this
  have hp := List.pairwise_iff_getElem.1 hnd
  rcases Nat.lt_trichotomy b b' with h | h | h
  ·exact absurd this (hp b b' hl hl' h)
  ·exact h
  ·exact absurd this.symm (hp b' b hl' hl h)
 ·obtain ⟨hl, hd, _⟩ := gk b hb
  exact h3.rel.outF _ hd q hq
 ·have hk0 := hn k (h0 k hk)
  obtain ⟨h4, h5⟩ := h3.out.ext.ι k hk
  have e : gl.getD k 0 = k := by simp [List.getD_eq_getElem?_getD, hk0]
  exact ⟨⟨(List.getElem?_eq_some_iff.1 hk0).1, by rw [e]; exact h4⟩, by simp only [renS, e]; exact h5⟩
 ·obtain ⟨hl, hd, _⟩ := gk b hb
  exact h3.out.locF _ hd q hq
theorem RunN.keepU {n0 : Nat} {P : Program} {f : FuncId} {Q : AV → List AB → Prop} {todo : List Item} {env env' : List AV} {H H' : List AB} (gl : List Nat) (lv l l' : List Bool) (hn : ∀ k, k < n0 → gl[k]? = some k) (hnd : gl.Nodup) (hE : unE l (maskE lv (env.map (renA gl))) = env') (hH : unH l' (gl.map (fun b => renB gl (rgv H b))) = H')
  (h : RunN n0 P f Q todo env' H') : RunN n0 P f Q todo env H := RunN.keep gl lv hn hnd rfl rfl (RunN.un l l' (by rw [hE, hH]; exact h))
/-- A state that says less. -/
theorem RunN.le {n0 : Nat} {P : Program} {f : FuncId} {Q : AV → List AB → Prop} {todo : List Item} {env env' : List AV} {H H' : List AB} (hE : All2 LeA env env') (hl : H.length ≤ H'.length) (hH : ∀ b, gv H' b = gv H b) (h : RunN n0 P f Q todo env' H') : RunN n0 P f Q todo env H := fun σ0 G0 W b a w cs h0 h1 h2 h3 => by
 refine h σ0 G0 W b a w cs h0 h1 h2 ?_
 obtain ⟨σ, h3⟩ := h3
 have e : gv H' = gv H := funext hH
 refine ⟨σ, fun b hb => Nat.lt_of_lt_of_le (h3.D b hb) hl, ⟨hE.1.symm.trans h3.env.1, fun t => ?_⟩, e ▸ h3.rel, e ▸ h3.out, h3.defers⟩
 by_cases ht : t < env.length
 ·have ht' : t < env'.length := by rw [← hE.1]; exact ht
  have h4 := h3.env.2 t
  rw [List.getD_eq_getElem?_getD, List.getElem?_eq_getElem ht] at h4
  rw [List.getD_eq_getElem?_getD, List.getElem?_eq_getElem ht']
  exact hE.2 t _ _ (List.getElem?_eq_getElem ht) (List.getElem?_eq_getElem ht') σ w _ h4
 ·rw [List.getD_eq_getElem?_getD, List.getElem?_eq_none (by rw [← hE.1]; omega)]; trivial
abbrev Run := RunN 0
section
variable {n0 : Nat} {P : Program} {Q : AV → List AB → Prop} {f : FuncId} {fn : Func} {env : List AV} {H : List AB}
def resOne (tm : Array Value) : ResultVar → Sem Value
 | .tmp t => pure (tm.getD t undef)
 | .cell a t => do loadVar t (← asAddr (tm.getD a undef))
/-- A function's results. -/
theorem res_go {S : List Item → List AV → List AB → Prop} (one : ResultVar → Kont → Tree) (hone : ∀ r K, one r K = match r with
  | .tmp t => K (env.getD t .junk) H [] []
  | .cell a t => aLoad P t (env.getD a .junk) H K) : ∀ (rs : List ResultVar) (acc : List A1), Good P S Q (aRes.go H one rs acc) →
  ∃ l, Q (.tup (acc.reverse ++ l)) H ∧ ∀ (σ : Sg) (tm : Array Value) (w : World), EnvR σ w env tm → RelG σ (gv H) w → ∃ vs, (rs.mapM (resOne tm)).run P w = .ok vs w ∧ All2 (CA1 σ w) l vs ∧ vs.length = rs.length := by
 intro rs
 induction rs with
 | nil =>
  intro acc hG
  exact ⟨[], by simp only [List.append_nil]; exact hG, fun σ tm w _ _ => ⟨[], rfl, .nil, rfl⟩⟩
 | cons r rs ih =>
  intro acc hG
  unfold aRes.go at hG
  rw [hone] at hG
  cases r with
  | tmp t =>
   simp only at hG
   split at hG
   ·rename_i a1 hv
    obtain ⟨l, hq, h⟩ := ih _ hG
    refine ⟨a1 :: l, by simpa using hq, fun σ tm w he hr => ?_⟩
    obtain ⟨vs, h1, h2, hl⟩ := h σ tm w he hr
    have h3 := he.2 t
    rw [hv] at h3
    exact ⟨_ :: vs, by simp [List.mapM_cons, resOne, h1], .cons h3 h2, by simp [hl]⟩
   ·exact hG.elim
  | cell a t =>
   simp only at hG
   obtain ⟨v, rd, hG, hload⟩ := load_ok hG
   split at hG
   ·rename_i a1
    obtain ⟨l, hq, h⟩ := ih _ hG
    refine ⟨a1 :: l, by simpa using hq, fun σ tm w he hr => ?_⟩
    obtain ⟨vs, h1, h2, hl⟩ := h σ tm w he hr
    obtain ⟨ad, y, e1, e2, e3⟩ := hload σ (gv H) w _ (he.2 a) (fun _ _ => rfl) hr
    exact ⟨y :: vs, by simp [List.mapM_cons, resOne, h1, e1, asAddr, e2], .cons e3 h2, by simp [hl]⟩
   ·exact hG.elim
theorem res_ok {S : List Item → List AV → List AB → Prop} (hG : Good P S Q (aRes P fn env H)) : ∃ r, Q r H ∧ ∀ (σ : Sg) (tm : Array Value) (w : World), EnvR σ w env tm → RelG σ (gv H) w → ∃ v, (results fn tm).run P w = .ok v w ∧ CA σ w r v := by
 unfold aRes at hG
 have hres : ∀ (tm : Array Value) (w : World), (results fn tm).run P w = ((fn.results.toList.mapM (resOne tm)).run P w).andThen fun vs w' => .ok (if h : vs.toArray.size = 1 then vs.toArray[0] else .tuple vs.toArray) w' := fun tm w => by
  have e : results fn tm = (do
   let vs ← fn.results.mapM (resOne tm)
   pure (if h : vs.size = 1 then vs[0] else .tuple vs)) := by
   unfold results
   congr 2
  rw [e, Array.mapM_eq_mapM_toList]
  simp only [Sem.run_bind, Sem.run_map]
  generalize (List.mapM (resOne tm) fn.results.toList : Sem (List Value)).run P w = r
  cases r <;> rfl
 simp only at hG
 split at hG
 ·rename_i r hr
  cases r with
  | tmp t =>
   simp only at hG
   refine ⟨_, hG, fun σ tm w he hrel => ⟨_, ?_, he.2 t⟩⟩
   rw [hres, hr]
   simp [resOne]
  | cell a t =>
   simp only at hG
   obtain ⟨v, rd, hG, hload⟩ := load_ok hG
   refine ⟨_, hG, fun σ tm w he hrel => ?_⟩
   obtain ⟨ad, y, e1, e2, e3⟩ := hload σ (gv H) w _ (he.2 a) (fun _ _ => rfl) hrel
   refine ⟨y, ?_, e3⟩
   rw [hres, hr]
   simp [resOne, e1, asAddr, e2]
 ·rename_i hne
  obtain ⟨l, hq, h⟩ := res_go _ (fun r K => rfl) _ _ hG
  refine ⟨_, hq, fun σ tm w he hrel => ?_⟩
  obtain ⟨vs, h1, h2, hlen⟩ := h σ tm w he hrel
  refine ⟨.tuple vs.toArray, ?_, vs.toArray, rfl, by simpa using h2⟩
  rw [hres, h1]
  have hn1 : ¬ vs.toArray.size = 1 := by
   intro e
   have e : fn.results.toList.length = 1 := by rw [← hlen]; simpa using e
   obtain ⟨r, hr⟩ := List.length_eq_one_iff.1 e
   exact hne r hr
  simp [hn1]
  intro hx
  exact absurd (by simpa using hx) hn1
/-- A mark's block is shut. -/
theorem shut_ok {σ0 σ : Sg} {G0 G : Nat → AB} {W w : World} {D : Nat} {x : Option (List Deferred)} (hr : RelG σ G w) (ho : Out σ0 G0 W σ G w) (hW : W.heap.size ≤ D) (hR : ¬ σ.R D) (hD : w.heap[D]? = some (.deferred x)) (y : Option (List Deferred)) :
  Ext σ w σ (w.putObj D (.deferred y)) ∧ RelG σ G (w.putObj D (.deferred y)) ∧ Out σ0 G0 W σ G (w.putObj D (.deferred y)) := by
 have hx : Ext σ w σ (w.putObj D (.deferred y)) := ⟨fun k h => ⟨h, rfl⟩, fun _ h => h, fun k hk _ => World.putObj_heap_other (by rintro rfl; exact hR hk), fun k c e fr h => ⟨c, fr, by rw [World.putObj_heap_other (by rintro rfl; rw [hD] at h; cases h)]; exact h, rfl⟩⟩
 refine ⟨hx, ⟨hr.dom, fun b hb => (hr.blk b hb).same hx (World.putObj_heap_other ?_) (fun k hk => World.putObj_heap_other fun e => hr.not_def hb (.inr hk) (e ▸ hD)), hr.injF, hr.outF, fun k hk => by rw [World.putObj_size]; exact hr.rlt k hk, hr.glob.ext hx, fun b hb k hk => (hr.flt b hb k hk).ext hx⟩, ⟨⟨ho.chg.os, ho.chg.tape, ho.chg.output, by rw [World.putObj_size]; exact ho.chg.size, fun k hk hf => ?_⟩, ho.ext.trans hx, ho.locF, ho.R⟩⟩
 ·intro e
  exact (hr.blk b hb).not_def hb (by rw [e]; exact hD)
 ·rw [World.putObj_heap_other (by omega)]
  exact ho.chg.block k hk hf
/-- On its way out: the marks are taken. -/
theorem unwind_ok {σ0 σ : Sg} {G0 G : Nat → AB} {W : World} : ∀ (ds : List Deferred) (fr : Frame) (w : World) (cs : List Frame), fr.mode = .returning → fr.defers = ds → DefOk σ W ds w → RelG σ G w → Out σ0 G0 W σ G w →
  ∃ w', Steps P (lone fr cs w) (lone { fr with defers := [] } cs w') ∧ Ext σ w σ w' ∧ RelG σ G w' ∧ Out σ0 G0 W σ G w'
 | [], fr, w, cs, _, hd, _, hr, ho => by
  have e : { fr with defers := [] } = fr := by rw [← hd]
  refine ⟨w, ?_, Ext.refl _ _, hr, ho⟩
  rw [e]
  exact Steps.refl _ _
 | d :: ds, fr, w, cs, hm, hd, hok, hr, ho => by
  obtain ⟨hnd, hall⟩ := hok
  obtain ⟨D, e, hW, hR, hD⟩ := hall d (List.mem_cons_self ..)
  obtain ⟨x1, r1, o1⟩ := shut_ok hr ho hW hR hD none
  have hs := step_collected (P := P) (cs := cs) (w := w) (by rw [hm]; exact fun h => nomatch h) hd (by rw [e]) (run_takeDeferred hD)
  obtain ⟨w', s2, x2, r2, o2⟩ := unwind_ok ds { fr with defers := [] ++ ds } _ cs hm rfl ⟨(List.nodup_cons.1 hnd).2, fun d' hd' => by
   obtain ⟨D', e', hW', hR', hD'⟩ := hall d' (List.mem_cons_of_mem _ hd')
   refine ⟨D', e', hW', hR', ?_⟩
   rw [World.putObj_heap_other (by rintro rfl; exact (List.nodup_cons.1 hnd).1 (by rw [e, ← e']; exact hd'))]
   exact hD'⟩ r1 o1
  exact ⟨w', .head hs s2, x1.trans x2, r2, o2⟩
theorem run_ret {S : List Item → List AV → List AB → Prop} {todo : List Item} (hf : P.funcs[f]? = some fn) (hG : Good P S Q (aRes P fn env H)) (ht : ∀ (b : Frame) (a : Act) (cs : List Frame) (w : World), step P (lone (b.at a todo) cs w) = .next (lone { b.at a todo with mode := .returning } cs w)) : RunN n0 P f Q todo env H := fun σ0 G0 W b a w cs h0 h1 h2 h3 => by
 obtain ⟨r, hq, h⟩ := res_ok hG
 obtain ⟨σ, h3⟩ := h3
 obtain ⟨w', s1, x1, r1, o1⟩ := unwind_ok a.defers { b.at a todo with mode := .returning } w cs rfl rfl h3.defers h3.rel h3.out
 obtain ⟨v, e1, e2⟩ := h σ a.tmps w' (h3.env.ext x1) r1
 exact ⟨v, w', { b.at a todo with mode := .returning, defers := [] }, r, H, σ, hq, h3.D, r1, o1, e2, .head (ht b a cs w) s1, h1, rfl, rfl, h2, fn, by rw [← hf, ← h1]; rfl, e1⟩
theorem run_region {oc : Orc} {id : Nat} {ops : Array Oper} {draw : Bool} {k : List Item} {S : List Item → List AV → List AB → Prop} {K : List AV → List AB → Tree} (hm : P.follows .mixedOrders = true)
  (hG : Good P S Q (aOps P oc draw ops.toList 0 ops.toList [] [] env H K)) (hK : ∀ env H, Good P S Q (K env H) → RunN n0 P f Q k env H) : RunN n0 P f Q (.code (.region id ops draw) :: k) env H := fun σ0 G0 W b a w cs h0 h1 h2 h3 => by
 have key : (Code.region id ops draw).wp P (fun e a' w' => e = .normal ∧ ∃ env' H', Good P S Q (K env' H') ∧ RS σ0 G0 W env' H' a' w') a w := by
  cases draw with
  | false =>
   refine wp_region ?_
   have := ops_seq (P := P) (S := S) (Q := Q) (σ0 := σ0) (G0 := G0) (W := W) ops (fun e a' w' => e = .normal ∧ ∃ env' H', Good P S Q (K env' H') ∧ RS σ0 G0 W env' H' a' w') K (fun env H a w hg hs => ⟨rfl, env, H, hg, hs⟩) ops.toList 0 [] [] env H a w (by simp) hG h3
   simpa [List.range_eq_range'] using this
  | true =>
   refine wp_region_any hm ?_
   obtain ⟨T, env', H', hTr, hTl, hg⟩ := trace_of (P := P) (S := S) (Q := Q) (opsL := ops.toList) (env0 := env) (H0 := H) (K := K) ops.toList 0 [] [] env H [] (by simp) rfl rfl (fun j f h => by simp at h) .nil hG
   obtain ⟨A, e1, e2⟩ := hTr.all
   have hTl : T.length = ops.size := by simpa using hTl
   obtain ⟨σ, h4⟩ := h3.drew
   refine ops_draw ops A hTl _ (fun a w hs => ⟨rfl, env', H', hg, by rw [e1, e2]; exact hs⟩) ops.size (Array.replicate ops.size false) a _ (by simp) ?_ ?_ ⟨σ, ?_⟩
   ·have hc : ∀ n, cnt (fun k => (Array.replicate ops.size false).getD k false) n ≤ n := fun n => by
     induction n with
     | zero => exact Nat.le_refl _
     | succ n ih => unfold cnt; split <;> omega
    exact hc _
   ·intro k e _ h
    exfalso
    simp [Array.getElem?_replicate] at h
    split at h <;> simp at h
   ·have hz : ∀ k, (Array.replicate ops.size false).getD k false = false := fun k => by
     simp only [Array.getD_eq_getD_getElem?, Array.getElem?_replicate]
     split <;> rfl
    have hl : ∀ {α : Type} (Wr : Nat → Bool) (x : Nat → α) n, lastV (fun k => (Array.replicate ops.size false).getD k false) Wr x n = x 0 := fun Wr x n => by
     induction n with
     | zero => rfl
     | succ n ih => unfold lastV; rw [hz]; simpa using ih
    have hg : (fun b => lastV (fun k => (Array.replicate ops.size false).getD k false) (wrB T (2 * b + 1)) (xG H T b) T.length) = gv H := by
     funext b; rw [hl]; rfl
    refine ⟨fun b hb => .inl (h4.D b hb), h4.env.1.symm, fun t => ?_, by rw [hg]; exact h4.rel, by rw [hg]; exact h4.out, h4.defers⟩
    rw [hl (α := Sg → World → Value → Prop)]
    exact h4.env.2 t
 obtain ⟨e, a', w', ⟨rfl, env', H', hg, hs⟩, harr⟩ := key b k cs
 obtain ⟨v, w2, fr, r, H2, σ', q1, q2, q3, q4, q5, q6, q7⟩ := hK env' H' hg σ0 G0 W b a' w' cs h0 h1 h2 hs
 exact ⟨v, w2, fr, r, H2, σ', q1, q2, q3, q4, q5, harr.trans q6, q7⟩
theorem run_of {oc : Orc} {lv : LV} (hf : P.funcs[f]? = some fn) (hm : P.follows .mixedOrders = true) : ∀ (n : Nat) (todo : List Item) (env : List AV) (H : List AB), Good P (RunN n0 P f Q) Q (aRun P oc fn lv n todo env H) → RunN n0 P f Q todo env H := by
 intro n
 induction n with
 | zero => intro todo env H hG; exact hG
 | succ n ih =>
  intro todo env H hG
  unfold aRun at hG
  split at hG
  ·exact run_ret hf hG fun b a cs w => step_end
  ·rename_i c k
   split at hG
   ·exact run_ret hf hG fun b a cs w => step_ret
   ·exact (ih _ _ _ hG).step fun b a cs w => step_skip
   ·exact (ih _ _ _ hG).step fun b a cs w => step_label
   ·exact (ih _ _ _ hG).step fun b a cs w => step_seq
   ·rename_i c x y
    obtain ⟨t, ht, hG⟩ := good_onB hG
    refine fun σ0 G0 W b a w cs h0 h1 h2 h3 => ?_
    have hc : a.eval c = .bool t := by
     obtain ⟨σ, h3⟩ := h3
     exact CA_bool ht (ev_ok h3.rel.glob h3.env c)
    have hG' : Good P (RunN n0 P f Q) Q (aRun P oc fn lv n (.code (if t then x else y) :: k) env H) := by cases t <;> exact hG
    obtain ⟨v, w', fr, r, H', σ', q1, q2, q3, q4, q5, q6, q7⟩ := ih _ _ _ hG' σ0 G0 W b a w cs h0 h1 h2 h3
    exact ⟨v, w', fr, r, H', σ', q1, q2, q3, q4, q5, .head (step_cond hc) q6, q7⟩
   ·exact (ih _ _ _ hG).step fun b a cs w => step_block
   ·rename_i b
    exact (ih _ _ _ hG).step fun b a cs w => step_lone_go (by simp [stepG, stepG.exec, Frame.at])
   ·rename_i id
    split at hG
    ·rename_i k' hk'
     exact (ih _ _ _ hG).step fun b a cs w => step_exit hk'
    ·exact hG.elim
   ·exact (RunN.into (RunN.mask hG)).step fun b a cs w => step_loop
   ·rename_i id ops draw
    split at hG
    ·exact RunN.mask hG
    ·exact run_region hm hG fun env H hg => ih _ _ _ hg
   ·exact RunN.mask hG
   ·exact hG.elim
  ·exact (ih _ _ _ hG).step fun b a cs w => step_inBlock
  ·exact (ih _ _ _ hG).step fun b a cs w => step_lone_go (by simp [stepG, stepG.exec, Frame.at])
  ·exact RunN.mask hG
  ·exact hG.elim
end
end Go.Proofs.YtkonkblfckhcbaaGreatDoor
namespace Go.Proofs.YtkonkblfckhcbaaGreatDoor
set_option linter.unusedVariables false
set_option linter.unusedSimpArgs false
open Go.RowKit

/-- What a function's end is to be: the result, its slices as those that are read. -/
def retQ (P : Program) (r : AV) (v : AV) (H : List AB) : Prop := Good P (fun _ _ _ => False) (fun v' _ => LeA v' r ∧ v'.closed = true) (frzA H v fun v' _ => .ret v' [])
theorem LeA.refl (a : AV) : LeA a a := fun _ _ _ h => h
/-- What is known of arguments. -/
def Facts (args : List AV) : Prop := ∃ R w vs, All2 (CA ⟨id, fun _ => False, R, fun _ _ => False⟩ w) args vs
section
variable {P : Program} {f : Nat} {fn : Func} {body : Code} {args : List AV} {r : AV}
theorem calls_enter {n0 : Nat} {σ0 : Sg} {w : World} {vs : List Value} {H : List AB} {Q : AV → List AB → Prop} (h0 : ∀ k, σ0.D k → k < n0) (hf : P.funcs[f]? = some fn) (hb : fn.body = some body) (hl : args.length ≤ fn.ntmps) (hD : ∀ b, σ0.D b → b < H.length) (hrel : RelG σ0 (gv H) w) (hv : All2 (CA σ0 w) args vs)
  (h : RunN n0 P f Q [.code body] (args ++ List.replicate (fn.ntmps - args.length) .junk) H) : Calls P f vs.toArray w fun e w' => ∃ v r H' σ', e = .returned v ∧ Q r H' ∧ (∀ n, σ'.D n → n < H'.length) ∧ RelG σ' (gv H') w' ∧ Out σ0 (gv H) w σ' (gv H') w' ∧ CA σ' w' r v := fun cs => by
 have hfr : Frame.enter P f vs.toArray .normal = Frame.at { fn := f, tmps := #[], todo := [], defers := [], mode := .run, kind := .normal } ⟨vs.toArray ++ Array.replicate (fn.ntmps - vs.length) undef, []⟩ [.code body] := by
  simp [Frame.enter, Frame.at, hf, hb]
 rw [hfr]
 have henv : ∀ t, CA σ0 w ((args ++ List.replicate (fn.ntmps - args.length) AV.junk).getD t .junk) ((vs.toArray ++ Array.replicate (fn.ntmps - vs.length) undef).getD t undef) := fun t => by
  rcases Nat.lt_or_ge t args.length with ht | ht
  ·have h1 : (args ++ List.replicate (fn.ntmps - args.length) AV.junk).getD t .junk = args[t] := by
    rw [List.getD_eq_getElem?_getD, List.getElem?_append_left ht, List.getElem?_eq_getElem ht]; rfl
   have ht2 : t < vs.length := by rw [← hv.1]; exact ht
   have h2 : (vs.toArray ++ Array.replicate (fn.ntmps - vs.length) undef).getD t undef = vs[t] := by
    rw [Array.getD_eq_getD_getElem?, Array.getElem?_append_left (by simpa using ht2)]; simp [ht2]
   rw [h1, h2]
   exact hv.2 t _ _ (List.getElem?_eq_getElem ht) (List.getElem?_eq_getElem ht2)
  ·have h1 : (args ++ List.replicate (fn.ntmps - args.length) AV.junk).getD t .junk = .junk := by
    rw [List.getD_eq_getElem?_getD, List.getElem?_append_right ht, List.getElem?_replicate]
    split <;> rfl
   rw [h1]; trivial
 obtain ⟨v, w', fr, r, H', σ', q1, q2, q3, q4, q5, q6, q7, q8⟩ := h σ0 (gv H) w { fn := f, tmps := #[], todo := [], defers := [], mode := .run, kind := .normal } ⟨vs.toArray ++ Array.replicate (fn.ntmps - vs.length) undef, []⟩ w cs h0 rfl rfl ⟨σ0, hD, ⟨by simp [hv.1], henv⟩, hrel, Out.refl, DefOk.nil⟩
 exact ⟨.returned v, w', fr, ⟨v, r, H', σ', rfl, q1, q2, q3, q4, q5⟩, q6, q7, q8⟩
theorem AFun.of_run (hf : P.funcs[f]? = some fn) (hb : fn.body = some body) (hn : (fn.name == "runtime.NumGoroutine") = false) (hl : args.length ≤ fn.ntmps)
  (h : Facts args → Run P f (retQ P r) [.code body] (args ++ List.replicate (fn.ntmps - args.length) .junk) []) : AFun P f args r := fun R w vs hR hG hv => by
 left
 refine ⟨enters_of hf hn hb _ _, ?_⟩
 have hrel : RelG ⟨id, fun _ => False, R, fun _ _ => False⟩ (gv []) w := ⟨fun b hb => absurd rfl hb, fun b hb => absurd rfl hb, fun b b' hb => absurd rfl hb, fun b hb => absurd rfl hb, hR, hG, fun b hb => absurd rfl hb⟩
 refine (calls_enter (n0 := 0) (fun k (hk : False) => hk.elim) hf hb hl (fun b (hb : False) => hb.elim) hrel hv (h ⟨R, w, vs, hv⟩)).mono fun e w' ⟨v, r1, H', σ', he, q1, q2, q3, q4, q5⟩ => ⟨v, he, ?_, ?_⟩
 ·have := q4.chg
  exact ⟨this.os, this.tape, this.output, this.size, fun k hk => this.block k hk (by rintro ⟨b, hb, _⟩; exact hb rfl)⟩
 ·obtain ⟨v', l, ⟨hle, hcl⟩, _, hfz⟩ := frzA_ok q1
  have h1 := hfz σ' (gv H') w' v l (fun b hb => hb) (fun b hb => rfl) q3 (q5.ext fS_ext)
  have h2 := CA.closed hcl h1 id (fun _ => False)
  have h3 : CA ⟨id, fun _ => False, fun k => R k ∨ (w.heap.size ≤ k ∧ k < w'.heap.size), fun _ _ => False⟩ w' v' v := h2.ext ⟨fun k (hk : False) => hk.elim, fun k hk => by
   have hlt : k < w'.heap.size := by
    rcases hk with hk | ⟨b, hb, ha, hk⟩
    ·exact q3.rlt k hk
    ·exact q3.ltF ha hk
   rcases hk with hk | ⟨b, hb, ha, hk⟩
   ·rcases q4.R k hk with h | h | ⟨c, hc, _⟩
    ·exact .inl h
    ·exact .inr ⟨h, hlt⟩
    ·exact absurd rfl hc
   ·rcases q4.locF b ha k hk with ⟨c, hc, _⟩ | h
    ·exact absurd rfl hc
    ·exact .inr ⟨h, hlt⟩, fun _ _ _ => rfl, fun k c e fr h => ⟨c, fr, h, rfl⟩⟩
  exact hle _ _ _ h3
/-- By its abstract execution. -/
theorem AFun.of (oc : Orc) (lv : LV) (n : Nat) (hf : P.funcs[f]? = some fn) (hm : P.follows .mixedOrders = true) (hb : fn.body = some body) (hn : (fn.name == "runtime.NumGoroutine") = false) (hl : args.length ≤ fn.ntmps) (T : Tree)
  (hT : aRun P oc fn lv n [.code body] (args ++ List.replicate (fn.ntmps - args.length) .junk) [] = T)
  (h : Facts args → Good P (Run P f (retQ P r)) (retQ P r) T) : AFun P f args r :=
 .of_run hf hb hn hl fun hF => run_of hf hm n _ _ _ (by rw [hT]; exact h hF)
/-- A round of a loop. -/
theorem Run.round {n0 : Nat} {Q : AV → List AB → Prop} {c : Code} {k : List Item} {env : List AV} {H : List AB} (oc : Orc) (lv : LV) (n : Nat) (hf : P.funcs[f]? = some fn) (hm : P.follows .mixedOrders = true) (T : Tree) (hT : aRun P oc fn lv n (.code c :: .inLoop c :: k) env H = T) (h : Good P (RunN n0 P f Q) Q T) : RunN n0 P f Q (.inLoop c :: k) env H :=
 (run_of hf hm n _ _ _ (by rw [hT]; exact h)).step fun b a cs w => step_inLoop
end
/-- The loops of a body, each with what is to be done from its head on. -/
def loopsOf : Code → List Item → List (List Item)
 | .seq a b, k => loopsOf a (.code b :: k) ++ loopsOf b k
 | .cond _ x y, k => loopsOf x k ++ loopsOf y k
 | .block id b, k => loopsOf b (.inBlock id :: k)
 | .scope b, k => loopsOf b (.inScope b :: k)
 | .loop b, k => (.inLoop b :: k) :: loopsOf b (.inLoop b :: k)
 | _, _ => []
/-- The regions of a body, each with what is to be done from it on. -/
def regsOf : Code → List Item → List (Nat × List Item)
 | .seq a b, k => regsOf a (.code b :: k) ++ regsOf b k
 | .cond _ x y, k => regsOf x k ++ regsOf y k
 | .block id b, k => regsOf b (.inBlock id :: k)
 | .scope b, k => regsOf b (.inScope b :: k)
 | .loop b, k => regsOf b (.inLoop b :: k)
 | .region id ops d, k => [(id, .code (.region id ops d) :: k)]
 | _, _ => []
/-- The ranges over functions of a body, each with what is to be done from it on. -/
def rfsOf : Code → List Item → List (List Item)
 | .seq a b, k => rfsOf a (.code b :: k) ++ rfsOf b k
 | .cond _ x y, k => rfsOf x k ++ rfsOf y k
 | .block id b, k => rfsOf b (.inBlock id :: k)
 | .scope b, k => rfsOf b (.inScope b :: k)
 | .loop b, k => rfsOf b (.inLoop b :: k)
 | .rangeFunc g ps x y, k => [.code (.rangeFunc g ps x y) :: k]
 | _, _ => []
def rf (c : Code) (i : Nat) : List Item := (rfsOf c []).getD i []
def findN (n : Nat) : List (Nat × List Item) → List Item
 | [] => []
 | a :: r => if Nat.beq a.1 n then a.2 else findN n r
def rg (c : Code) (id : Nat) : List Item := findN id (regsOf c [])
def lp (c : Code) (i : Nat) : List Item := (loopsOf c []).getD i []
def bodyOf (f : Func) : Code := f.body.getD .skip
/-- A round, from a loop's head. -/
theorem Run.roundA {n0 : Nat} {P : Program} {f : Nat} {fn : Func} {Q : AV → List AB → Prop} {todo : List Item} {env : List AV} {H : List AB} (oc : Orc) (lv : LV) (n : Nat) (hf : P.funcs[f]? = some fn) (hm : P.follows .mixedOrders = true) (T : Tree) (hT : aRound P oc fn lv n todo env H = T) (h : Good P (RunN n0 P f Q) Q T) : RunN n0 P f Q todo env H := by
 unfold aRound at hT
 split at hT
 ·exact Run.round oc lv n hf hm T hT h
 ·exact run_region hm (by rw [hT]; exact h) fun env H hg => run_of hf hm n _ _ _ hg
 ·exact run_of hf hm n _ _ _ (by rw [hT]; exact h)
/-- An argument as data. -/
def dA (t : Ty) : AV → Option t.El
 | .one a => match t.dec a.cells with
  | some (x, []) => some x
  | _ => none
 | _ => none
/-! the steps of a tree -/
section
variable {P : Program} {S : List Item → List AV → List AB → Prop} {Q : AV → List AB → Prop}
theorem g_ite {b : Bool} {t e : Tree} (h : b = true → Good P S Q t) (h' : b = false → Good P S Q e) : Good P S Q (.ite b t e) := ⟨h, h'⟩
theorem g_need {p : Prop} {t : Tree} (h : p) (h' : Good P S Q t) : Good P S Q (.need p t) := ⟨h, h'⟩
theorem LeAs.refl (l : List AV) : All2 LeA l l := ⟨rfl, fun i x y hx hy => by rw [hx] at hy; injection hy with hy; subst hy; exact LeA.refl _⟩
theorem g_call {f : Nat} {args : List AV} {fz : Bool} {r : AV} {t : Tree} (h : AFun P f args r) (hz : (fz = true → r.flat = true)) (h' : Good P S Q t) : Good P S Q (.call f args fz r t) := ⟨⟨args, LeAs.refl _, h⟩, hz, h'⟩
theorem g_stop {v : List Item} {E : List AV} {H : List AB} (h : S v E H) : Good P S Q (.stop v E H) := h
theorem retQ_c {c : CV} {r : AV} {H : List AB} (hc : c.closed = true) (h : LeA (.c c) r) : retQ P r (.c c) H := by
 unfold retQ frzA frz1 frzC
 cases c <;> first | exact ⟨h, by simpa [AV.closed, A1.closed, A1.cells] using hc⟩ | (cases hc; done)
theorem g_retb {b b' : Bool} {H : List AB} (h : b = b') : Good P S (retQ P (.c (.bool b'))) (.ret (.c (.bool b)) H) := by
 subst h; exact retQ_c rfl (LeA.refl _)
theorem g_retl {b b' : Bool} {H : List AB} (h : b = b') : Good P S (retQ P (.c (.bool b'))) (.ret (.c (.lit b)) H) := by
 subst h; exact retQ_c rfl (fun _ _ _ h => h)
theorem g_reti {k : IntKind} {b b' : Int} {H : List AB} (h : b = b') : Good P S (retQ P (.c (.int k b'))) (.ret (.c (.int k b)) H) := by
 subst h; exact retQ_c rfl (LeA.refl _)
end
/-! what is known of arguments -/
theorem Facts.cons {a : AV} {l : List AV} (h : Facts (a :: l)) : (∃ R w v, CA ⟨id, fun _ => False, R, fun _ _ => False⟩ w a v) ∧ Facts l := by
 obtain ⟨R, w, vs, h⟩ := h
 obtain ⟨v, vs', rfl, hv, hr⟩ := h.cons_of
 exact ⟨⟨R, w, v, hv⟩, R, w, vs', hr⟩
theorem rd_okT {R : Nat → Prop} {w : World} (t : Ty) : ∀ {x : t.El} {cs : List Value}, t.rd.K R w x cs → t.ok x := by
 induction t with
 | int k => intro x cs h; exact h.2
 | bool => intro x cs h; trivial
 | str => intro x cs h; exact h.2
 | pair a b iha ihb => intro x cs h; obtain ⟨c0, c1, _, h0, h1⟩ := h; exact ⟨iha h0, ihb h1⟩
 | slice e ih =>
  intro x cs h
  obtain ⟨A, c, _, _, _, _, hC⟩ := h
  refine ⟨hC.2.1, fun y hy => ?_⟩
  obtain ⟨i, hi, rfl⟩ := List.mem_iff_getElem.1 hy
  obtain ⟨ad, cs, _, _, _, hk, _⟩ := hC.at_ i _ (List.getElem?_eq_getElem hi)
  exact ih hk
theorem enc_ok {σ : Sg} {w : World} (t : Ty) : ∀ {x : t.El} {vs : List Value}, CCs σ w (t.enc x) vs → t.ok x := by
 induction t with
 | int k => intro x vs h; obtain ⟨v, _, hv⟩ := h.one; exact hv.2
 | bool => intro x vs h; trivial
 | str => intro x vs h; obtain ⟨v, _, hv⟩ := h.one; exact hv.2
 | pair a b iha ihb =>
  intro x vs h
  have e1 : (a.enc x.1).length = a.sz := enc_len a _
  have h1 := h.tk a.sz
  have h2 := h.dp a.sz
  have e2 : (Ty.enc (.pair a b) x).take a.sz = a.enc x.1 := by show (a.enc x.1 ++ b.enc x.2).take a.sz = _; rw [← e1, List.take_left]
  have e3 : (Ty.enc (.pair a b) x).drop a.sz = b.enc x.2 := by show (a.enc x.1 ++ b.enc x.2).drop a.sz = _; rw [← e1, List.drop_left]
  rw [e2] at h1; rw [e3] at h2
  exact ⟨iha h1, ihb h2⟩
 | slice e _ => intro x vs h; obtain ⟨v, _, hv⟩ := h.one; exact rd_okT (.slice e) hv
theorem Facts.agg {t : Ty} {x : t.El} {l : List AV} (h : Facts (.agg (t.enc x) :: l)) : t.ok x ∧ Facts l := by
 obtain ⟨⟨R, w, v, vs, _, hv⟩, h2⟩ := h.cons
 exact ⟨enc_ok t hv, h2⟩
theorem Facts.int {k : IntKind} {n : Int} {l : List AV} (h : Facts (.c (.int k n) :: l)) : inR k n ∧ Facts l := by
 obtain ⟨⟨R, w, v, hv⟩, h2⟩ := h.cons
 exact ⟨hv.2, h2⟩
theorem Facts.ro {t : Ty} {xs : List t.El} {l : List AV} (h : Facts (.c (.ro t xs) :: l)) : Ty.ok (.slice t) xs ∧ Facts l := by
 obtain ⟨⟨R, w, v, hv⟩, h2⟩ := h.cons
 exact ⟨rd_okT (.slice t) hv, h2⟩
theorem i64_iff {n : Int} : inR .i64 n ↔ -9223372036854775808 ≤ n ∧ n ≤ 9223372036854775807 := by
 simp [inR, IntKind.min, IntKind.max, IntKind.signed, IntKind.bits]
end Go.Proofs.YtkonkblfckhcbaaGreatDoor
namespace Go.Proofs.YtkonkblfckhcbaaGreatDoor
set_option linter.unusedVariables false
set_option linter.unusedSimpArgs false
open Go.RowKit

/-- One cell's word stands for what the other's does. -/
def leC : CV → CV → Prop
 | .lit a, .bool b => a = b
 | .int k n, .int k' n' => k = k' ∧ n = n'
 | .bool a, .bool b => a = b
 | .str a, .str b => a = b
 | .ro t xs, .ro t' ys => ∃ h : t = t', h ▸ xs = ys
 | .nilsl, .ro t ys => ys = []
 | .nilsl, .osl _ _ n => n = 0
 | .sl b s i n, .osl b' s' n' => b = b' ∧ s = s' ∧ i = 0 ∧ n = n' ∧ n' ≠ 0
 | .osl b s n, .osl b' s' n' => b = b' ∧ s = s' ∧ n = n'
 | .sl b s i n, .sl b' s' i' n' => b = b' ∧ s = s' ∧ i = i' ∧ n = n'
 | _, .junk => True
 | a, b => a = b
def leCs : List CV → List CV → Prop
 | [], [] => True
 | a :: r, b :: s => leC a b ∧ leCs r s
 | _, _ => False
def leA1 : A1 → A1 → Prop
 | .c a, .c b => leC a b
 | .agg a, .agg b => leCs a b
 | _, _ => False
def leA1s : List A1 → List A1 → Prop
 | [], [] => True
 | a :: r, b :: s => leA1 a b ∧ leA1s r s
 | _, _ => False
def leAV : AV → AV → Prop
 | .one a, .one b => leA1 a b
 | .tup a, .tup b => leA1s a b
 | _, .junk => True
 | _, _ => False
def leAVs : List AV → List AV → Prop
 | [], [] => True
 | a :: r, b :: s => leAV a b ∧ leAVs r s
 | _, _ => False
theorem nil_ro {σ : Sg} {w : World} {t : Ty} : CC σ w (.ro t []) (.slice none 0 0) := by
 refine ⟨none, 0, rfl, Nat.le_refl _, by omega, ?_, ?_⟩
 all_goals simp [Rd.C]
theorem leC.to {σ : Sg} {w : World} {v : Value} : ∀ {a b : CV}, leC a b → CC σ w a v → CC σ w b v := by
 intro a b h hv
 cases b with
 | junk => exact hv.one
 | osl b' s' n' =>
  cases a <;> simp only [leC] at h <;> try (cases h; done)
  case nilsl =>
   have hv : v = _ := hv
   subst h; exact CC.osl_zero.2 ⟨none, hv⟩
  case sl =>
   obtain ⟨rfl, rfl, rfl, rfl, h0⟩ := h
   exact (CC.osl_pos h0).2 hv
  case osl =>
   obtain ⟨rfl, rfl, rfl⟩ := h
   exact hv
 | sl b' s' i' n' =>
  cases a <;> simp only [leC] at h <;> try (cases h; done)
  case sl =>
   obtain ⟨rfl, rfl, rfl, rfl⟩ := h
   exact hv
 | _ =>
  cases a <;> simp only [leC] at h <;> try (cases h; done)
  all_goals first
   | exact h ▸ hv
   | (obtain ⟨rfl, rfl⟩ := h; exact hv)
   | (subst h; exact hv)
   | (have hv : v = _ := hv; subst hv; subst h; exact nil_ro)
   | (injections; subst_vars; exact hv)
theorem leCs.to {σ : Sg} {w : World} : ∀ {a b : List CV} {vs : List Value}, leCs a b → CCs σ w a vs → CCs σ w b vs
 | [], [], vs, _, h => h
 | a :: r, b :: s, vs, h, hv => by
  obtain ⟨v, vs', rfl, h1, h2⟩ := hv.cons_of
  exact .cons (leC.to h.1 h1) (leCs.to h.2 h2)
 | [], _ :: _, _, h, _ => h.elim
 | _ :: _, [], _, h, _ => h.elim
theorem leA1.to {σ : Sg} {w : World} {v : Value} : ∀ {a b : A1}, leA1 a b → CA1 σ w a v → CA1 σ w b v
 | .c a, .c b, h, hv => leC.to (a := a) (b := b) h hv
 | .agg a, .agg b, h, ⟨vs, hv, hc⟩ => ⟨vs, hv, leCs.to h hc⟩
 | .c _, .agg _, h, _ => h.elim
 | .agg _, .c _, h, _ => h.elim
theorem leA1s.to {σ : Sg} {w : World} : ∀ {a b : List A1} {vs : List Value}, leA1s a b → All2 (CA1 σ w) a vs → All2 (CA1 σ w) b vs
 | [], [], vs, _, h => h
 | a :: r, b :: s, vs, h, hv => by
  obtain ⟨v, vs', rfl, h1, h2⟩ := hv.cons_of
  exact .cons (leA1.to h.1 h1) (leA1s.to h.2 h2)
 | [], _ :: _, _, h, _ => h.elim
 | _ :: _, [], _, h, _ => h.elim
theorem leAV.to : ∀ {a b : AV}, leAV a b → LeA a b
 | .one a, .one b, h => fun σ w v hv => leA1.to h hv
 | .tup a, .tup b, h => fun σ w v ⟨vs, hv, hc⟩ => ⟨vs, hv, leA1s.to h hc⟩
 | .junk, .junk, _ => fun _ _ _ h => h
 | .junk, .one _, h => h.elim
 | .junk, .tup _, h => h.elim
 | .one _, .junk, _ => fun _ _ _ _ => trivial
 | .one _, .tup _, h => h.elim
 | .tup _, .junk, _ => fun _ _ _ _ => trivial
 | .tup _, .one _, h => h.elim
theorem leAVs.to : ∀ {a b : List AV}, leAVs a b → All2 LeA a b
 | [], [], _ => .nil
 | a :: r, b :: s, h => .cons h.1.to (leAVs.to h.2)
 | [], _ :: _, h => h.elim
 | _ :: _, [], h => h.elim
/-! short words for the printed texts -/
abbrev J2 (r : List AV) : List AV := .junk :: .junk :: r
abbrev J4 (r : List AV) : List AV := J2 (J2 r)
abbrev J8 (r : List AV) : List AV := J4 (J4 r)
abbrev J16 (r : List AV) : List AV := J8 (J8 r)
abbrev J32 (r : List AV) : List AV := J16 (J16 r)
abbrev F2 (r : List Bool) : List Bool := false :: false :: r
abbrev F4 (r : List Bool) : List Bool := F2 (F2 r)
abbrev F8 (r : List Bool) : List Bool := F4 (F4 r)
abbrev F16 (r : List Bool) : List Bool := F8 (F8 r)
abbrev F32 (r : List Bool) : List Bool := F16 (F16 r)
theorem kk {n0 : Nat} {gl : List Nat} (h : ((List.range n0).all fun k => gl[k]? == some k) = true) : ∀ k, k < n0 → gl[k]? = some k := fun k hk => by simpa using List.all_eq_true.1 h k (List.mem_range.2 hk)
theorem n0 {gl : List Nat} : ∀ k, k < 0 → gl[k]? = some k := fun _ h => absurd h (Nat.not_lt_zero _)
section
variable {P : Program} {S : List Item → List AV → List AB → Prop} {Q : AV → List AB → Prop}
/-- A result without memory of the call's own. -/
theorem g_rt {v r : AV} {H : List AB} (hf : frzA H v (fun v' _ => Tree.ret v' []) = .ret v []) (hc : v.closed = true) (hl : leAV v r) : Good P S (retQ P r) (.ret v H) := by
 show Good P _ _ (frzA H v fun v' _ => .ret v' [])
 rw [hf]
 exact ⟨hl.to, hc⟩
/-- A result that is a row of the call's own. -/
theorem g_rs {b n : Nat} {t : Ty} {e : TypeId} {xs ys : List t.El} {H : List AB} (hb : H[b]? = some (.vec e t xs)) (hn : n = xs.length) (hx : xs = ys) : Good P S (retQ P (.c (.ro t ys))) (.ret (.c (.sl b t.sz 0 n)) H) := by
 show Good P _ _ (frzA H (.c (.sl b t.sz 0 n)) fun v' _ => .ret v' [])
 simp only [frzA, frz1, frzC, hb, if_true]
 exact ⟨⟨by trivial, hn⟩, hx ▸ LeA.refl _, rfl⟩
theorem g_rn {t : Ty} {ys : List t.El} {H : List AB} (h : ys = []) : Good P S (retQ P (.c (.ro t ys))) (.ret (.c .nilsl) H) :=
 g_rt rfl rfl (by simpa [leAV, leA1, leC] using h)
theorem g_iteD {p : Prop} [Decidable p] {t e : Tree} (h : p → Good P S Q t) (h' : ¬ p → Good P S Q e) : Good P S Q (.ite (decide p) t e) := ⟨fun hp => h (of_decide_eq_true hp), fun hp => h' (of_decide_eq_false hp)⟩
theorem g_iteN {b : Bool} {t e : Tree} (h : b = false → Good P S Q t) (h' : b = true → Good P S Q e) : Good P S Q (.ite (!b) t e) := ⟨fun hb => h (by simpa using hb), fun hb => h' (by simpa using hb)⟩
theorem g_iteND {p : Prop} [Decidable p] {t e : Tree} (h : ¬ p → Good P S Q t) (h' : p → Good P S Q e) : Good P S Q (.ite (!(decide p)) t e) := ⟨fun hb => h (by simpa using hb), fun hb => h' (by simpa using hb)⟩
end
theorem iteP {α : Type} (Pr : α → Prop) {c : Prop} [Decidable c] {a b : α} (ha : Pr a) (hb : Pr b) : Pr (if c then a else b) := by split <;> assumption
theorem dropCons {α : Type} {l : List α} {i : Nat} (d : α) (h : i < l.length) : l.drop i = l.getD i d :: l.drop (i + 1) := by
 rw [List.getD_eq_getElem?_getD, List.getElem?_eq_getElem h]; simp
theorem getD_mem {α : Type} {l : List α} {i : Nat} (d : α) (h : i < l.length) : l.getD i d ∈ l := by
 rw [List.getD_eq_getElem?_getD, List.getElem?_eq_getElem h]; simp
end Go.Proofs.YtkonkblfckhcbaaGreatDoor
namespace Go.Proofs.YtkonkblfckhcbaaGreatDoor
set_option linter.unusedVariables false
set_option linter.unusedSimpArgs false
open Go.RowKit

/-- What such a function's end is to be: its result and the memory, by the caller's names. -/
def retH (n0 : Nat) (r : AV) (Ht : List AB) (v : AV) (H' : List AB) : Prop := ∃ gl : List Nat, (∀ k, k < n0 → gl[k]? = some k) ∧ gl.Nodup ∧ LeA (renA gl v) r ∧ gl.map (fun b => renB gl (rgv H' b)) = Ht
/-- What is known of arguments and of memory. -/
def FactsH (args : List AV) (H : List AB) : Prop := ∃ σ w vs, All2 (CA σ w) args vs ∧ RelG σ (gv H) w
theorem ext_ren {gl : List Nat} {σ σ' : Sg} {w : World} (hι : ∀ k, k < gl.length → σ'.D k ∧ σ'.ι k = σ.ι (gl.getD k 0)) (hR : σ'.R = σ.R) : Ext (renS gl σ) w σ' w := ⟨fun k hk => hι k hk.1, fun k hk => by rw [hR]; exact hk, fun _ _ _ => rfl, fun k c e fr h => ⟨c, fr, h, rfl⟩⟩
section
variable {P : Program} {f : Nat} {fn : Func} {body : Code} {args : List AV} {r : AV} {H Ht : List AB}
theorem AFunH.of_run (hf : P.funcs[f]? = some fn) (hb : fn.body = some body) (hn : (fn.name == "runtime.NumGoroutine") = false) (hl : args.length ≤ fn.ntmps)
  (ha : args.map (renA (List.range H.length)) = args) (hH : (List.range H.length).map (fun b => renB (List.range H.length) (rgv H b)) = H) (hle : H.length ≤ Ht.length)
  (h : FactsH args H → RunN H.length P f (retH H.length r Ht) [.code body] (args ++ List.replicate (fn.ntmps - args.length) .junk) H) : AFunH P f args H r Ht (List.range Ht.length) where
 len := hle
 lt := fun b hb => by simpa using hb
 off := fun b hb => by
  have hb : Ht.length ≤ b := by simpa using hb
  rw [gv_none (List.getElem?_eq_none hb), gv_none (List.getElem?_eq_none (by omega))]
 act := fun σ w vs hrel hfr hv => by
  left
  refine ⟨enters_of hf hn hb _ _, ?_⟩
  have rg : ∀ k, k < H.length → (List.range H.length).getD k 0 = k := fun k hk => by simp [List.getD_eq_getElem?_getD, List.getElem?_range hk]
  have hv1 : All2 (CA (renS (List.range H.length) σ) w) args vs := by
   rw [← ha]
   exact ⟨by simpa using hv.1, fun i x y hx hy => by
    rw [List.getElem?_map] at hx
    obtain ⟨q, hq, rfl⟩ := Option.map_eq_some_iff.1 hx
    exact renA_ok (hv.2 i q y hq hy)⟩
  have lt_of : ∀ b, gv H b ≠ .dead → b < H.length := fun b hb => by
   rcases Nat.lt_or_ge b H.length with h | h
   ·exact h
   ·exact absurd (gv_none (List.getElem?_eq_none h)) hb
  have hB : ∀ b, b < H.length → renB (List.range H.length) (gv H b) = gv H b := fun b hb => by
   have := congrArg (·[b]?) hH
   simp only [List.getElem?_map, List.getElem?_range hb, Option.map_some] at this
   have e2 : H[b]? = some (rgv H b) := by simp [rgv, List.getD_eq_getElem?_getD, List.getElem?_eq_getElem hb]
   rw [e2] at this
   injection this with this
   rw [gv_rgv, ← nrm_renB, this]
  have rf : ∀ {k : Nat} (b : Nat), b < H.length → (renS (List.range H.length) σ).fp b k → σ.fp b k := fun b hb hk => by
   have hk : σ.fp ((List.range H.length).getD b 0) _ := hk
   rwa [rg b hb] at hk
  have hrel1 : RelG (renS (List.range H.length) σ) (gv H) w := ⟨fun b hb => ⟨by simpa using lt_of b hb, by rw [rg b (lt_of b hb)]; exact hrel.dom b hb⟩, fun b hb => by
   have h1 := renB_ok (gl := List.range H.length) (hrel.blk b hb)
   rw [hB b (lt_of b hb)] at h1
   show Blk _ w (σ.ι ((List.range H.length).getD b 0)) (σ.F ((List.range H.length).getD b 0)) _
   rw [rg b (lt_of b hb)]
   exact h1, fun b b' hb hb' k he he' => hrel.injF b b' hb hb' k (rf b (lt_of b hb) he) (rf b' (lt_of b' hb') he'), fun b hb k hk => hrel.outF b hb k (rf b (lt_of b hb) hk), hrel.rlt, hrel.glob, fun b hb k hk => hrel.flt b hb k (by have hk : σ.F ((List.range H.length).getD b 0) k := hk; rwa [rg b (lt_of b hb)] at hk)⟩
  refine (calls_enter (n0 := H.length) (σ0 := renS (List.range H.length) σ) (fun k hk => by simpa using hk.1) hf hb hl (fun b hb => by simpa using hb.1) hrel1 hv1 (h ⟨_, w, vs, hv, hrel⟩)).mono fun e w' ⟨v, r1, H', σ', he, ⟨gl, g1, g2, g3, g4⟩, q2, q3, q4, q5⟩ => ⟨v, he, ?_⟩
  have hgl : gl.length = Ht.length := by rw [← g4]; simp
  let σ2 : Sg := ⟨fun k => if k < Ht.length then σ'.ι (gl.getD k 0) else σ.ι k, fun k => σ.D k ∨ k < Ht.length, σ'.R, fun k => if k < Ht.length then σ'.F (gl.getD k 0) else σ.F k⟩
  have hx : Ext (renS gl σ') w' σ2 w' := ext_ren (fun k hk => ⟨.inr (by omega), by show (if k < Ht.length then _ else _) = _; rw [if_pos (by omega)]⟩) rfl
  have ιk : ∀ k, k < Ht.length → σ2.ι k = σ'.ι (gl.getD k 0) := fun k hk => by show (if k < Ht.length then _ else _) = _; rw [if_pos hk]
  have Fk : ∀ k, k < Ht.length → σ2.F k = σ'.F (gl.getD k 0) := fun k hk => by show (if k < Ht.length then _ else _) = _; rw [if_pos hk]
  have fk : ∀ {q : Nat} (k : Nat), k < Ht.length → σ2.fp k q → σ'.fp (gl.getD k 0) q := fun k hk hq => by
   unfold Sg.fp at hq ⊢
   rwa [ιk k hk, Fk k hk] at hq
  have gt : ∀ b, b < Ht.length → gv Ht b = renB gl (gv H' (gl.getD b 0)) := fun b hb => by
   have hb' : b < gl.length := by omega
   rw [gv_rgv H', ← nrm_renB, ← g4]
   refine gv_some ?_
   simp [List.getElem?_map, List.getElem?_eq_getElem hb', List.getD_eq_getElem?_getD]
  have nd : ∀ b, b < Ht.length → gv Ht b ≠ .dead → gv H' (gl.getD b 0) ≠ .dead := fun b hb hd h0 => hd (by rw [gt b hb, h0]; rfl)
  have fp : ∀ k, fpAll (renS (List.range H.length) σ) (gv H) k → fpOf σ (gv H) (List.range Ht.length) k := fun k ⟨b, hb, hk⟩ => ⟨b, by have := lt_of b hb; simp; omega, hb, rf b (lt_of b hb) hk⟩
  refine ⟨σ2, ⟨fun b => by simp [σ2], ⟨fun k hk => ⟨.inl hk, ?_⟩, q4.ext.R, q4.ext.keep, q4.ext.shape⟩, q4.chg.mono fp, fun b hb hd => ?_, fun b hb hd q hq => ?_, fun b hb b' hb' hd hd' q he he' => ?_, fun k hk => (q4.R k hk).imp id (Or.imp id (fp k)), fun b hb hd q hq => ?_, q3.rlt, fun b hb hd q hq => ?_, fun b hD hb => ?_⟩, (g3 _ _ _ (renA_ok q5)).ext hx⟩
  ·rcases Nat.lt_or_ge k Ht.length with hk1 | hk1
   ·rcases Nat.lt_or_ge k H.length with hk2 | hk2
    ·rw [ιk k hk1]
     have e : gl.getD k 0 = k := by simp [List.getD_eq_getElem?_getD, g1 k hk2]
     have := (q4.ext.ι k ⟨by simpa using hk2, by rw [rg k hk2]; exact hk⟩).2
     rw [e, this]
     simp only [renS, rg k hk2]
    ·exact absurd hk (hfr k (by simpa using hk1) hk2)
   ·show (if k < Ht.length then _ else _) = _
    rw [if_neg (by omega)]
  ·have hb1 : b < Ht.length := by simpa using hb
   rw [gt b hb1, ιk b hb1, Fk b hb1]
   exact (renB_ok (gl := gl) (q3.blk _ (nd b hb1 hd))).same hx rfl (fun _ _ => rfl)
  ·have hb1 : b < Ht.length := by simpa using hb
   rcases q4.locF _ (nd b hb1 hd) q (fk b hb1 hq) with h | h
   ·exact .inl (fp _ h)
   ·exact .inr h
  ·have hb1 : b < Ht.length := by simpa using hb
   have hb2 : b' < Ht.length := by simpa using hb'
   have := q3.injF _ _ (nd b hb1 hd) (nd b' hb2 hd') q (fk b hb1 he) (fk b' hb2 he')
   rw [List.getD_eq_getElem?_getD, List.getD_eq_getElem?_getD, List.getElem?_eq_getElem (by omega), List.getElem?_eq_getElem (by omega)] at this
   have hp := List.pairwise_iff_getElem.1 g2
   rcases Nat.lt_trichotomy b b' with h | h | h
   ·exact absurd this (hp b b' (by omega) (by omega) h)
   ·exact h
   ·exact absurd this.symm (hp b' b (by omega) (by omega) h)
  ·have hb1 : b < Ht.length := by simpa using hb
   exact q3.outF _ (nd b hb1 hd) q (fk b hb1 hq)
  ·have hb1 : b < Ht.length := by simpa using hb
   rw [Fk b hb1] at hq
   exact q3.flt _ (nd b hb1 hd) q hq
  ·show (if b < Ht.length then _ else _) = _
   rw [if_neg (by simpa using hb)]
/-- By its abstract execution. -/
theorem AFunH.of (oc : Orc) (lv : LV) (n : Nat) (hf : P.funcs[f]? = some fn) (hm : P.follows .mixedOrders = true) (hb : fn.body = some body) (hn : (fn.name == "runtime.NumGoroutine") = false) (hl : args.length ≤ fn.ntmps)
  (ha : args.map (renA (List.range H.length)) = args) (hH : (List.range H.length).map (fun b => renB (List.range H.length) (rgv H b)) = H) (hle : H.length ≤ Ht.length) (T : Tree)
  (hT : aRun P oc fn lv n [.code body] (args ++ List.replicate (fn.ntmps - args.length) .junk) H = T)
  (h : FactsH args H → Good P (RunN H.length P f (retH H.length r Ht)) (retH H.length r Ht) T) : AFunH P f args H r Ht (List.range Ht.length) :=
 .of_run hf hb hn hl ha hH hle fun hF => run_of hf hm n _ _ _ (by rw [hT]; exact h hF)
end
/-- A block as data. -/
def dB (id : TypeId) (t : Ty) : AB → Option t.El
 | .cells e cs => if e = id then (match t.dec cs with
  | some (x, []) => some x
  | _ => none) else none
 | _ => none
theorem FactsH.blk {args : List AV} {H : List AB} {b : Nat} {e : TypeId} {t : Ty} {x : t.El} (h : FactsH args H) (hb : H[b]? = some (.cells e (t.enc x))) : t.ok x := by
 obtain ⟨σ, w, vs, _, hr⟩ := h
 have e1 : gv H b = .cells e (t.enc x) := gv_of hb
 have := hr.blk b (by rw [e1]; simp)
 rw [e1] at this
 obtain ⟨c, _, hc⟩ := this
 exact enc_ok t hc
theorem FactsH.arg {args : List AV} {H : List AB} {i : Nat} {a : AV} (h : FactsH args H) (hi : args[i]? = some a) : ∃ σ w v, CA σ w a v := by
 obtain ⟨σ, w, vs, h1, _⟩ := h
 have hl := (List.getElem?_eq_some_iff.1 hi).1
 exact ⟨σ, w, _, h1.2 i a _ hi (List.getElem?_eq_getElem (by rw [← h1.1]; exact hl))⟩
theorem FactsH.ro {args : List AV} {H : List AB} {i : Nat} {t : Ty} {xs : List t.El} (h : FactsH args H) (hi : args[i]? = some (.c (.ro t xs))) : Ty.ok (.slice t) xs := by
 obtain ⟨σ, w, v, h⟩ := h.arg hi
 exact rd_okT (.slice t) h
section
variable {P : Program} {S : List Item → List AV → List AB → Prop} {Q : AV → List AB → Prop}
theorem g_rh {n0 : Nat} {v r : AV} {H' Ht : List AB} (gl : List Nat) (h1 : ∀ k, k < n0 → gl[k]? = some k) (h2 : gl.Nodup) (h3 : leAV (renA gl v) r) (h4 : gl.map (fun b => renB gl (rgv H' b)) = Ht) : Good P S (retH n0 r Ht) (.ret v H') := ⟨gl, h1, h2, h3.to, h4⟩
theorem g_callH {f : Nat} {args : List AV} {H : List AB} {r : AV} {H' : List AB} {wr : List Nat} {t : Tree} (h : AFunH P f args H r H' wr) (h' : Good P S Q t) : Good P S Q (.callH f args H r H' wr t) := ⟨h, h'⟩
end
end Go.Proofs.YtkonkblfckhcbaaGreatDoor
