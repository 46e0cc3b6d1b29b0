/- What the laws' texts lean on, part 4: lemmas and the contracts of functions. No condition. -/
import Derived.Test.YtefkifdhjabdiaaDoorF2
import Derived.Shelf.Abstract
import Derived.Laws.Tables
import Derived.Test.YtefkifdhjabdiaaDoorF0
import Derived.OwnWalk
import Derived.WalkSpells
import Derived.Deep.RegionLaw
import Derived.Deep.RegionHeld3
import Derived.Laws.OwnMore
namespace Go.Proofs.YtefkifdhjabdiaaDoor
set_option linter.unusedVariables false
set_option linter.unusedSimpArgs false
open Go.RowKit

/-- The first place where it holds, or -1. -/
def idxF {α : Type} (p : α → Bool) (xs : List α) : Int := match xs.findIdx? p with | some i => (i : Int) | none => -1
theorem idxF_at {α : Type} (p : α → Bool) (xs : List α) (i : Nat) (hl : ∀ x ∈ xs.take i, p x = false) (x : α) (hx : xs[i]? = some x) (hp : p x = true) : idxF p xs = (i : Int) := by
  have : xs.findIdx? p = some i := by
    rw [List.findIdx?_eq_some_iff_getElem]
    obtain ⟨hi, e⟩ := List.getElem?_eq_some_iff.1 hx
    refine ⟨hi, by rw [e]; exact hp, fun j hj => ?_⟩
    have := hl xs[j] (by rw [List.mem_take_iff_getElem]; exact ⟨j, by omega, rfl⟩)
    simp [this]
  unfold idxF
  rw [this]
theorem idxF_none {α : Type} (p : α → Bool) (xs : List α) (hl : ∀ x ∈ xs, p x = false) : idxF p xs = -1 := by
  have : xs.findIdx? p = none := by
    rw [List.findIdx?_eq_none_iff]
    exact hl
  unfold idxF
  rw [this]
theorem idxF_ge {α : Type} (p : α → Bool) (xs : List α) : decide (0 ≤ idxF p xs) = xs.any p := by
  unfold idxF
  cases h : xs.findIdx? p with
  | none => rw [List.findIdx?_eq_none_iff] at h; simp; exact h
  | some i =>
    obtain ⟨hi, h1, _⟩ := List.findIdx?_eq_some_iff_getElem.1 h
    have : xs.any p = true := List.any_eq_true.2 ⟨_, List.getElem_mem hi, h1⟩
    rw [this]
    simp
theorem idxF_range {α : Type} (p : α → Bool) (xs : List α) : -1 ≤ idxF p xs ∧ idxF p xs ≤ xs.length := by
  unfold idxF
  cases h : xs.findIdx? p with
  | none => simp
  | some i =>
    obtain ⟨hi, h1, _⟩ := List.findIdx?_eq_some_iff_getElem.1 h
    simp; omega

set_option maxRecDepth 100000 in
set_option maxHeartbeats 4000000 in
theorem indexStr (ok : Nat → Prop) (g : Nat) (caps : Array Value) (p : ByteArray → Bool) (w : World) (A : Option Addr) (n c : Nat) (xs : List ByteArray) (hC : Rd.str.C ok w A n xs)
    (hg : ∀ args w, (callFunc g args).run Tryd.prog w = .ok (.enter g args) w)
    (H : ∀ x ∈ xs, ∀ w', Below w.heap.size w w' → (x.size ≤ 9223372036854775807) → Calls Tryd.prog g (#[.string x] ++ caps) w' fun e w'' => e = .returned (.bool (p x)) ∧ Below w'.heap.size w' w'') :
    Calls Tryd.prog 141 #[.slice A n c, .func (.func g) #[] caps] w fun e w' => e = .returned (.int .i64 (idxF p xs)) ∧ Below w.heap.size w w' := by
  have hn := hC.1
  have hn2 := hC.2.1
  have HC := Lib.hid hC
  have Hn := Lib.hid hn
  have HH := Lib.hid H
  have HG := Lib.hid hg
  clear hC hn H hg
  go_enter Tryd.func141, Tryd.ntmps141
  go_wp2_with fail
  go_loopw [8] (fun I w1 => ∃ i : Nat, I = .int .i64 (i : Int) ∧ i ≤ n ∧ (∀ x ∈ xs.take i, p x = false) ∧ Hid (Below w.heap.size w w1)) (fun i _ => n - (intOf i).toNat)
  case atStart => exact ⟨0, rfl, Nat.zero_le _, by simp, Lib.hid (Below.refl _ _)⟩
  case round =>
    obtain ⟨i, rfl, hi, ht, HB⟩ := hrel
    have HT := Lib.hid ht
    clear ht
    by_cases hlt : i < n
    · obtain ⟨x, hx⟩ : ∃ x, xs[i]? = some x := ⟨_, List.getElem?_eq_getElem (by rw [Hn.out]; exact hlt)⟩
      obtain ⟨ad, cs, rfl, _, hsz, ⟨rfl, hxi⟩, hc0, hcj⟩ := (HC.out.move (fun k _ hk => HB.out.block k hk)).elem i _ hx
      have e0 : wr.cell? (ad.add i) = some (.string x) := by have := hc0 _ rfl; simpa [Rd.str] using this
      have K0 := HH.out x (List.mem_of_getElem? hx) wr HB.out hxi
      have K := Lib.hid K0
      have HX := Lib.hid hx
      clear hc0 hcj hx K0
      cases hp : p x with
      | true =>
        have HR := Lib.hid (idxF_at p xs i HT.out x HX.out hp)
        go_wp2_with fail
        rw [HG.out, Oper.upon_enter]
        refine (K.out).mono ?_
        rintro e w1 ⟨rfl, h1⟩
        rw [hp]
        have HB1 := Lib.hid (HB.out.trans (h1.mono HB.out.size))
        clear h1
        go_wp2_with fail
        go_ret
        exact ⟨by rw [HR.out]; first | done | rfl, HB1.out⟩
      | false =>
        go_wp2_with fail
        rw [HG.out, Oper.upon_enter]
        refine (K.out).mono ?_
        rintro e w1 ⟨rfl, h1⟩
        rw [hp]
        have HB1 := Lib.hid (HB.out.trans (h1.mono HB.out.size))
        clear h1
        go_wp2_with fail
        go_roundw
        case rel =>
          refine ⟨i + 1, by go_num, hlt, fun y hy => ?_, HB1⟩
          rw [List.take_add_one, HX.out, List.mem_append] at hy
          rcases hy with hy | hy
          · exact HT.out y hy
          · simp at hy; rw [hy]; exact hp
        case measure => simp [intOf]; omega
    · go_wp2
      go_ret
      exact ⟨by rw [idxF_none p xs (fun x hx => HT.out x (by rwa [List.take_of_length_le (by rw [Hn.out]; omega)]))]; first | done | rfl, HB.out⟩

set_option maxRecDepth 100000 in
theorem containsStr (ok : Nat → Prop) (g : Nat) (caps : Array Value) (p : ByteArray → Bool) (w : World) (A : Option Addr) (n c : Nat) (xs : List ByteArray) (hC : Rd.str.C ok w A n xs)
    (hg : ∀ args w, (callFunc g args).run Tryd.prog w = .ok (.enter g args) w)
    (H : ∀ x ∈ xs, ∀ w', Below w.heap.size w w' → (x.size ≤ 9223372036854775807) → Calls Tryd.prog g (#[.string x] ++ caps) w' fun e w'' => e = .returned (.bool (p x)) ∧ Below w'.heap.size w' w'') :
    Calls Tryd.prog 113 #[.slice A n c, .func (.func g) #[] caps] w fun e w' => e = .returned (.bool (xs.any p)) ∧ Below w.heap.size w w' := by
  have K := Lib.hid (indexStr ok g caps p w A n c xs hC hg H)
  have R := Lib.hid (idxF_ge p xs)
  clear hC H hg
  obtain ⟨r, hr⟩ : ∃ r, r = idxF p xs := ⟨_, rfl⟩
  rw [← hr] at K R
  clear hr
  rw [← R.out]
  by_cases h0 : 0 ≤ r
  · have hd : decide (0 ≤ r) = true := by simpa using h0
    rw [hd]
    clear hd R
    go_enter Tryd.func113, Tryd.ntmps113
    go_wp2_with fail
    refine (K.out).mono ?_
    rintro e w1 ⟨rfl, h1⟩
    have H1 := Lib.hid h1
    clear h1 K
    go_wp2_with fail
    go_ret
    exact ⟨by simp [h0], H1.out⟩
  · have hd : decide (0 ≤ r) = false := by simpa using h0
    rw [hd]
    clear hd R
    go_enter Tryd.func113, Tryd.ntmps113
    go_wp2_with fail
    refine (K.out).mono ?_
    rintro e w1 ⟨rfl, h1⟩
    have H1 := Lib.hid h1
    clear h1 K
    go_wp2_with fail
    go_ret
    exact ⟨by simp [h0], H1.out⟩

set_option maxRecDepth 100000 in
set_option maxHeartbeats 4000000 in
theorem indexInt (ok : Nat → Prop) (g : Nat) (caps : Array Value) (p : Int → Bool) (w : World) (A : Option Addr) (n c : Nat) (xs : List Int) (hC : Rd.int.C ok w A n xs)
    (hg : ∀ args w, (callFunc g args).run Tryd.prog w = .ok (.enter g args) w)
    (H : ∀ x ∈ xs, ∀ w', Below w.heap.size w w' → (Rd.IsInt x) → Calls Tryd.prog g (#[.int .i64 x] ++ caps) w' fun e w'' => e = .returned (.bool (p x)) ∧ Below w'.heap.size w' w'') :
    Calls Tryd.prog 93 #[.slice A n c, .func (.func g) #[] caps] w fun e w' => e = .returned (.int .i64 (idxF p xs)) ∧ Below w.heap.size w w' := by
  have hn := hC.1
  have hn2 := hC.2.1
  have HC := Lib.hid hC
  have Hn := Lib.hid hn
  have HH := Lib.hid H
  have HG := Lib.hid hg
  clear hC hn H hg
  go_enter Tryd.func93, Tryd.ntmps93
  go_wp2_with fail
  go_loopw [8] (fun I w1 => ∃ i : Nat, I = .int .i64 (i : Int) ∧ i ≤ n ∧ (∀ x ∈ xs.take i, p x = false) ∧ Hid (Below w.heap.size w w1)) (fun i _ => n - (intOf i).toNat)
  case atStart => exact ⟨0, rfl, Nat.zero_le _, by simp, Lib.hid (Below.refl _ _)⟩
  case round =>
    obtain ⟨i, rfl, hi, ht, HB⟩ := hrel
    have HT := Lib.hid ht
    clear ht
    by_cases hlt : i < n
    · obtain ⟨x, hx⟩ : ∃ x, xs[i]? = some x := ⟨_, List.getElem?_eq_getElem (by rw [Hn.out]; exact hlt)⟩
      obtain ⟨ad, cs, rfl, _, hsz, ⟨rfl, hxi⟩, hc0, hcj⟩ := (HC.out.move (fun k _ hk => HB.out.block k hk)).elem i _ hx
      have e0 : wr.cell? (ad.add i) = some (.int .i64 x) := by have := hc0 _ rfl; simpa [Rd.int] using this
      have K0 := HH.out x (List.mem_of_getElem? hx) wr HB.out hxi
      have K := Lib.hid K0
      have HX := Lib.hid hx
      clear hc0 hcj hx K0
      cases hp : p x with
      | true =>
        have HR := Lib.hid (idxF_at p xs i HT.out x HX.out hp)
        go_wp2_with fail
        rw [HG.out, Oper.upon_enter]
        refine (K.out).mono ?_
        rintro e w1 ⟨rfl, h1⟩
        rw [hp]
        have HB1 := Lib.hid (HB.out.trans (h1.mono HB.out.size))
        clear h1
        go_wp2_with fail
        go_ret
        exact ⟨by rw [HR.out]; first | done | rfl, HB1.out⟩
      | false =>
        go_wp2_with fail
        rw [HG.out, Oper.upon_enter]
        refine (K.out).mono ?_
        rintro e w1 ⟨rfl, h1⟩
        rw [hp]
        have HB1 := Lib.hid (HB.out.trans (h1.mono HB.out.size))
        clear h1
        go_wp2_with fail
        go_roundw
        case rel =>
          refine ⟨i + 1, by go_num, hlt, fun y hy => ?_, HB1⟩
          rw [List.take_add_one, HX.out, List.mem_append] at hy
          rcases hy with hy | hy
          · exact HT.out y hy
          · simp at hy; rw [hy]; exact hp
        case measure => simp [intOf]; omega
    · go_wp2
      go_ret
      exact ⟨by rw [idxF_none p xs (fun x hx => HT.out x (by rwa [List.take_of_length_le (by rw [Hn.out]; omega)]))]; first | done | rfl, HB.out⟩

set_option maxRecDepth 100000 in
theorem containsInt (ok : Nat → Prop) (g : Nat) (caps : Array Value) (p : Int → Bool) (w : World) (A : Option Addr) (n c : Nat) (xs : List Int) (hC : Rd.int.C ok w A n xs)
    (hg : ∀ args w, (callFunc g args).run Tryd.prog w = .ok (.enter g args) w)
    (H : ∀ x ∈ xs, ∀ w', Below w.heap.size w w' → (Rd.IsInt x) → Calls Tryd.prog g (#[.int .i64 x] ++ caps) w' fun e w'' => e = .returned (.bool (p x)) ∧ Below w'.heap.size w' w'') :
    Calls Tryd.prog 56 #[.slice A n c, .func (.func g) #[] caps] w fun e w' => e = .returned (.bool (xs.any p)) ∧ Below w.heap.size w w' := by
  have K := Lib.hid (indexInt ok g caps p w A n c xs hC hg H)
  have R := Lib.hid (idxF_ge p xs)
  clear hC H hg
  obtain ⟨r, hr⟩ : ∃ r, r = idxF p xs := ⟨_, rfl⟩
  rw [← hr] at K R
  clear hr
  rw [← R.out]
  by_cases h0 : 0 ≤ r
  · have hd : decide (0 ≤ r) = true := by simpa using h0
    rw [hd]
    clear hd R
    go_enter Tryd.func56, Tryd.ntmps56
    go_wp2_with fail
    refine (K.out).mono ?_
    rintro e w1 ⟨rfl, h1⟩
    have H1 := Lib.hid h1
    clear h1 K
    go_wp2_with fail
    go_ret
    exact ⟨by simp [h0], H1.out⟩
  · have hd : decide (0 ≤ r) = false := by simpa using h0
    rw [hd]
    clear hd R
    go_enter Tryd.func56, Tryd.ntmps56
    go_wp2_with fail
    refine (K.out).mono ?_
    rintro e w1 ⟨rfl, h1⟩
    have H1 := Lib.hid h1
    clear h1 K
    go_wp2_with fail
    go_ret
    exact ⟨by simp [h0], H1.out⟩

set_option maxRecDepth 100000 in
set_option maxHeartbeats 4000000 in
theorem indexVal (ok : Nat → Prop) (g : Nat) (caps : Array Value) (p : Val → Bool) (w : World) (A : Option Addr) (n c : Nat) (xs : List Val) (hC : rdVal.C ok w A n xs)
    (hg : ∀ args w, (callFunc g args).run Tryd.prog w = .ok (.enter g args) w)
    (H : ∀ x ∈ xs, ∀ w', Below w.heap.size w w' → (Rd.IsInt x.kind ∧ Rd.IsInt x.n) → Calls Tryd.prog g (#[.agg x.cells] ++ caps) w' fun e w'' => e = .returned (.bool (p x)) ∧ Below w'.heap.size w' w'') :
    Calls Tryd.prog 143 #[.slice A n c, .func (.func g) #[] caps] w fun e w' => e = .returned (.int .i64 (idxF p xs)) ∧ Below w.heap.size w w' := by
  have hn := hC.1
  have hn2 := hC.2.1
  have HC := Lib.hid hC
  have Hn := Lib.hid hn
  have HH := Lib.hid H
  have HG := Lib.hid hg
  clear hC hn H hg
  go_enter Tryd.func143, Tryd.ntmps143
  go_wp2_with fail
  go_loopw [8] (fun I w1 => ∃ i : Nat, I = .int .i64 (i : Int) ∧ i ≤ n ∧ (∀ x ∈ xs.take i, p x = false) ∧ Hid (Below w.heap.size w w1)) (fun i _ => n - (intOf i).toNat)
  case atStart => exact ⟨0, rfl, Nat.zero_le _, by simp, Lib.hid (Below.refl _ _)⟩
  case round =>
    obtain ⟨i, rfl, hi, ht, HB⟩ := hrel
    have HT := Lib.hid ht
    clear ht
    by_cases hlt : i < n
    · obtain ⟨x, hx⟩ : ∃ x, xs[i]? = some x := ⟨_, List.getElem?_eq_getElem (by rw [Hn.out]; exact hlt)⟩
      obtain ⟨ad, cs, rfl, _, hsz, ⟨rfl, hxi⟩, hc0, hcj⟩ := (HC.out.move (fun k _ hk => HB.out.block k hk)).elem i _ hx
      have e0 : wr.cell? (ad.add (i * 2)) = some (.int .i64 x.kind) := hc0 _ rfl
      have e1 : wr.cell? ⟨(ad.add (i * 2)).block, (ad.add (i * 2)).off + 1, none⟩ = some (.int .i64 x.n) := hcj 0 _ rfl
      have K0 := HH.out x (List.mem_of_getElem? hx) wr HB.out hxi
      have K := Lib.hid K0
      have HX := Lib.hid hx
      clear hc0 hcj hx K0
      cases hp : p x with
      | true =>
        have HR := Lib.hid (idxF_at p xs i HT.out x HX.out hp)
        go_wp2_with fail
        rw [HG.out, Oper.upon_enter]
        refine (K.out).mono ?_
        rintro e w1 ⟨rfl, h1⟩
        rw [hp]
        have HB1 := Lib.hid (HB.out.trans (h1.mono HB.out.size))
        clear h1
        go_wp2_with fail
        go_ret
        exact ⟨by rw [HR.out]; first | done | rfl, HB1.out⟩
      | false =>
        go_wp2_with fail
        rw [HG.out, Oper.upon_enter]
        refine (K.out).mono ?_
        rintro e w1 ⟨rfl, h1⟩
        rw [hp]
        have HB1 := Lib.hid (HB.out.trans (h1.mono HB.out.size))
        clear h1
        go_wp2_with fail
        go_roundw
        case rel =>
          refine ⟨i + 1, by go_num, hlt, fun y hy => ?_, HB1⟩
          rw [List.take_add_one, HX.out, List.mem_append] at hy
          rcases hy with hy | hy
          · exact HT.out y hy
          · simp at hy; rw [hy]; exact hp
        case measure => simp [intOf]; omega
    · go_wp2
      go_ret
      exact ⟨by rw [idxF_none p xs (fun x hx => HT.out x (by rwa [List.take_of_length_le (by rw [Hn.out]; omega)]))]; first | done | rfl, HB.out⟩

set_option maxRecDepth 100000 in
theorem containsVal (ok : Nat → Prop) (g : Nat) (caps : Array Value) (p : Val → Bool) (w : World) (A : Option Addr) (n c : Nat) (xs : List Val) (hC : rdVal.C ok w A n xs)
    (hg : ∀ args w, (callFunc g args).run Tryd.prog w = .ok (.enter g args) w)
    (H : ∀ x ∈ xs, ∀ w', Below w.heap.size w w' → (Rd.IsInt x.kind ∧ Rd.IsInt x.n) → Calls Tryd.prog g (#[.agg x.cells] ++ caps) w' fun e w'' => e = .returned (.bool (p x)) ∧ Below w'.heap.size w' w'') :
    Calls Tryd.prog 118 #[.slice A n c, .func (.func g) #[] caps] w fun e w' => e = .returned (.bool (xs.any p)) ∧ Below w.heap.size w w' := by
  have K := Lib.hid (indexVal ok g caps p w A n c xs hC hg H)
  have R := Lib.hid (idxF_ge p xs)
  clear hC H hg
  obtain ⟨r, hr⟩ : ∃ r, r = idxF p xs := ⟨_, rfl⟩
  rw [← hr] at K R
  clear hr
  rw [← R.out]
  by_cases h0 : 0 ≤ r
  · have hd : decide (0 ≤ r) = true := by simpa using h0
    rw [hd]
    clear hd R
    go_enter Tryd.func118, Tryd.ntmps118
    go_wp2_with fail
    refine (K.out).mono ?_
    rintro e w1 ⟨rfl, h1⟩
    have H1 := Lib.hid h1
    clear h1 K
    go_wp2_with fail
    go_ret
    exact ⟨by simp [h0], H1.out⟩
  · have hd : decide (0 ≤ r) = false := by simpa using h0
    rw [hd]
    clear hd R
    go_enter Tryd.func118, Tryd.ntmps118
    go_wp2_with fail
    refine (K.out).mono ?_
    rintro e w1 ⟨rfl, h1⟩
    have H1 := Lib.hid h1
    clear h1 K
    go_wp2_with fail
    go_ret
    exact ⟨by simp [h0], H1.out⟩

set_option maxRecDepth 100000 in
set_option maxHeartbeats 4000000 in
theorem indexSet (ok : Nat → Prop) (g : Nat) (caps : Array Value) (p : TSet → Bool) (w : World) (A : Option Addr) (n c : Nat) (xs : List TSet) (hC : rdSet.C ok w A n xs)
    (hg : ∀ args w, (callFunc g args).run Tryd.prog w = .ok (.enter g args) w)
    (H : ∀ x ∈ xs, ∀ w', Below w.heap.size w w' → (Rd.IsInt x.reg ∧ Rd.IsInt x.val) → Calls Tryd.prog g (#[.agg x.cells] ++ caps) w' fun e w'' => e = .returned (.bool (p x)) ∧ Below w'.heap.size w' w'') :
    Calls Tryd.prog 123 #[.slice A n c, .func (.func g) #[] caps] w fun e w' => e = .returned (.int .i64 (idxF p xs)) ∧ Below w.heap.size w w' := by
  have hn := hC.1
  have hn2 := hC.2.1
  have HC := Lib.hid hC
  have Hn := Lib.hid hn
  have HH := Lib.hid H
  have HG := Lib.hid hg
  clear hC hn H hg
  go_enter Tryd.func123, Tryd.ntmps123
  go_wp2_with fail
  go_loopw [8] (fun I w1 => ∃ i : Nat, I = .int .i64 (i : Int) ∧ i ≤ n ∧ (∀ x ∈ xs.take i, p x = false) ∧ Hid (Below w.heap.size w w1)) (fun i _ => n - (intOf i).toNat)
  case atStart => exact ⟨0, rfl, Nat.zero_le _, by simp, Lib.hid (Below.refl _ _)⟩
  case round =>
    obtain ⟨i, rfl, hi, ht, HB⟩ := hrel
    have HT := Lib.hid ht
    clear ht
    by_cases hlt : i < n
    · obtain ⟨x, hx⟩ : ∃ x, xs[i]? = some x := ⟨_, List.getElem?_eq_getElem (by rw [Hn.out]; exact hlt)⟩
      obtain ⟨ad, cs, rfl, _, hsz, ⟨rfl, hxi⟩, hc0, hcj⟩ := (HC.out.move (fun k _ hk => HB.out.block k hk)).elem i _ hx
      have e0 : wr.cell? (ad.add (i * 2)) = some (.int .i64 x.reg) := hc0 _ rfl
      have e1 : wr.cell? ⟨(ad.add (i * 2)).block, (ad.add (i * 2)).off + 1, none⟩ = some (.int .i64 x.val) := hcj 0 _ rfl
      have K0 := HH.out x (List.mem_of_getElem? hx) wr HB.out hxi
      have K := Lib.hid K0
      have HX := Lib.hid hx
      clear hc0 hcj hx K0
      cases hp : p x with
      | true =>
        have HR := Lib.hid (idxF_at p xs i HT.out x HX.out hp)
        go_wp2_with fail
        rw [HG.out, Oper.upon_enter]
        refine (K.out).mono ?_
        rintro e w1 ⟨rfl, h1⟩
        rw [hp]
        have HB1 := Lib.hid (HB.out.trans (h1.mono HB.out.size))
        clear h1
        go_wp2_with fail
        go_ret
        exact ⟨by rw [HR.out]; first | done | rfl, HB1.out⟩
      | false =>
        go_wp2_with fail
        rw [HG.out, Oper.upon_enter]
        refine (K.out).mono ?_
        rintro e w1 ⟨rfl, h1⟩
        rw [hp]
        have HB1 := Lib.hid (HB.out.trans (h1.mono HB.out.size))
        clear h1
        go_wp2_with fail
        go_roundw
        case rel =>
          refine ⟨i + 1, by go_num, hlt, fun y hy => ?_, HB1⟩
          rw [List.take_add_one, HX.out, List.mem_append] at hy
          rcases hy with hy | hy
          · exact HT.out y hy
          · simp at hy; rw [hy]; exact hp
        case measure => simp [intOf]; omega
    · go_wp2
      go_ret
      exact ⟨by rw [idxF_none p xs (fun x hx => HT.out x (by rwa [List.take_of_length_le (by rw [Hn.out]; omega)]))]; first | done | rfl, HB.out⟩

set_option maxRecDepth 100000 in
theorem containsSet (ok : Nat → Prop) (g : Nat) (caps : Array Value) (p : TSet → Bool) (w : World) (A : Option Addr) (n c : Nat) (xs : List TSet) (hC : rdSet.C ok w A n xs)
    (hg : ∀ args w, (callFunc g args).run Tryd.prog w = .ok (.enter g args) w)
    (H : ∀ x ∈ xs, ∀ w', Below w.heap.size w w' → (Rd.IsInt x.reg ∧ Rd.IsInt x.val) → Calls Tryd.prog g (#[.agg x.cells] ++ caps) w' fun e w'' => e = .returned (.bool (p x)) ∧ Below w'.heap.size w' w'') :
    Calls Tryd.prog 90 #[.slice A n c, .func (.func g) #[] caps] w fun e w' => e = .returned (.bool (xs.any p)) ∧ Below w.heap.size w w' := by
  have K := Lib.hid (indexSet ok g caps p w A n c xs hC hg H)
  have R := Lib.hid (idxF_ge p xs)
  clear hC H hg
  obtain ⟨r, hr⟩ : ∃ r, r = idxF p xs := ⟨_, rfl⟩
  rw [← hr] at K R
  clear hr
  rw [← R.out]
  by_cases h0 : 0 ≤ r
  · have hd : decide (0 ≤ r) = true := by simpa using h0
    rw [hd]
    clear hd R
    go_enter Tryd.func90, Tryd.ntmps90
    go_wp2_with fail
    refine (K.out).mono ?_
    rintro e w1 ⟨rfl, h1⟩
    have H1 := Lib.hid h1
    clear h1 K
    go_wp2_with fail
    go_ret
    exact ⟨by simp [h0], H1.out⟩
  · have hd : decide (0 ≤ r) = false := by simpa using h0
    rw [hd]
    clear hd R
    go_enter Tryd.func90, Tryd.ntmps90
    go_wp2_with fail
    refine (K.out).mono ?_
    rintro e w1 ⟨rfl, h1⟩
    have H1 := Lib.hid h1
    clear h1 K
    go_wp2_with fail
    go_ret
    exact ⟨by simp [h0], H1.out⟩

set_option maxRecDepth 100000 in
set_option maxHeartbeats 4000000 in
theorem indexIns (ok : Nat → Prop) (g : Nat) (caps : Array Value) (p : Ins → Bool) (w : World) (A : Option Addr) (n c : Nat) (xs : List Ins) (hC : rdIns.C ok w A n xs)
    (hg : ∀ args w, (callFunc g args).run Tryd.prog w = .ok (.enter g args) w)
    (H : ∀ x ∈ xs, ∀ w', Below w.heap.size w w' → (x.Ok) → Calls Tryd.prog g (#[.agg x.cells] ++ caps) w' fun e w'' => e = .returned (.bool (p x)) ∧ Below w'.heap.size w' w'') :
    Calls Tryd.prog 151 #[.slice A n c, .func (.func g) #[] caps] w fun e w' => e = .returned (.int .i64 (idxF p xs)) ∧ Below w.heap.size w w' := by
  have hn := hC.1
  have hn2 := hC.2.1
  have HC := Lib.hid hC
  have Hn := Lib.hid hn
  have HH := Lib.hid H
  have HG := Lib.hid hg
  clear hC hn H hg
  go_enter Tryd.func151, Tryd.ntmps151
  go_wp2_with fail
  go_loopw [8] (fun I w1 => ∃ i : Nat, I = .int .i64 (i : Int) ∧ i ≤ n ∧ (∀ x ∈ xs.take i, p x = false) ∧ Hid (Below w.heap.size w w1)) (fun i _ => n - (intOf i).toNat)
  case atStart => exact ⟨0, rfl, Nat.zero_le _, by simp, Lib.hid (Below.refl _ _)⟩
  case round =>
    obtain ⟨i, rfl, hi, ht, HB⟩ := hrel
    have HT := Lib.hid ht
    clear ht
    by_cases hlt : i < n
    · obtain ⟨x, hx⟩ : ∃ x, xs[i]? = some x := ⟨_, List.getElem?_eq_getElem (by rw [Hn.out]; exact hlt)⟩
      obtain ⟨ad, cs, rfl, _, hsz, ⟨rfl, hxi⟩, hc0, hcj⟩ := (HC.out.move (fun k _ hk => HB.out.block k hk)).elem i _ hx
      have e0 : wr.cell? (ad.add (i * 8)) = some (.int .i64 x.op) := hc0 _ rfl
      have e1 : wr.cell? ⟨(ad.add (i * 8)).block, (ad.add (i * 8)).off + 1, none⟩ = some (.int .i64 x.a) := hcj 0 _ rfl
      have e2 : wr.cell? ⟨(ad.add (i * 8)).block, (ad.add (i * 8)).off + 2, none⟩ = some (.int .i64 x.b) := hcj 1 _ rfl
      have e3 : wr.cell? ⟨(ad.add (i * 8)).block, (ad.add (i * 8)).off + 3, none⟩ = some (.int .i64 x.c) := hcj 2 _ rfl
      have e4 : wr.cell? ⟨(ad.add (i * 8)).block, (ad.add (i * 8)).off + 4, none⟩ = some (.int .i64 x.n) := hcj 3 _ rfl
      have e5 : wr.cell? ⟨(ad.add (i * 8)).block, (ad.add (i * 8)).off + 5, none⟩ = some (.int .i64 x.x) := hcj 4 _ rfl
      have e6 : wr.cell? ⟨(ad.add (i * 8)).block, (ad.add (i * 8)).off + 6, none⟩ = some (.int .i64 x.kk) := hcj 5 _ rfl
      have e7 : wr.cell? ⟨(ad.add (i * 8)).block, (ad.add (i * 8)).off + 7, none⟩ = some (.int .i64 x.kn) := hcj 6 _ rfl
      have K0 := HH.out x (List.mem_of_getElem? hx) wr HB.out hxi
      have K := Lib.hid K0
      have HX := Lib.hid hx
      clear hc0 hcj hx K0
      cases hp : p x with
      | true =>
        have HR := Lib.hid (idxF_at p xs i HT.out x HX.out hp)
        go_wp2_with fail
        rw [HG.out, Oper.upon_enter]
        refine (K.out).mono ?_
        rintro e w1 ⟨rfl, h1⟩
        rw [hp]
        have HB1 := Lib.hid (HB.out.trans (h1.mono HB.out.size))
        clear h1
        go_wp2_with fail
        go_ret
        exact ⟨by rw [HR.out]; first | done | rfl, HB1.out⟩
      | false =>
        go_wp2_with fail
        rw [HG.out, Oper.upon_enter]
        refine (K.out).mono ?_
        rintro e w1 ⟨rfl, h1⟩
        rw [hp]
        have HB1 := Lib.hid (HB.out.trans (h1.mono HB.out.size))
        clear h1
        go_wp2_with fail
        go_roundw
        case rel =>
          refine ⟨i + 1, by go_num, hlt, fun y hy => ?_, HB1⟩
          rw [List.take_add_one, HX.out, List.mem_append] at hy
          rcases hy with hy | hy
          · exact HT.out y hy
          · simp at hy; rw [hy]; exact hp
        case measure => simp [intOf]; omega
    · go_wp2
      go_ret
      exact ⟨by rw [idxF_none p xs (fun x hx => HT.out x (by rwa [List.take_of_length_le (by rw [Hn.out]; omega)]))]; first | done | rfl, HB.out⟩

set_option maxRecDepth 100000 in
theorem containsIns (ok : Nat → Prop) (g : Nat) (caps : Array Value) (p : Ins → Bool) (w : World) (A : Option Addr) (n c : Nat) (xs : List Ins) (hC : rdIns.C ok w A n xs)
    (hg : ∀ args w, (callFunc g args).run Tryd.prog w = .ok (.enter g args) w)
    (H : ∀ x ∈ xs, ∀ w', Below w.heap.size w w' → (x.Ok) → Calls Tryd.prog g (#[.agg x.cells] ++ caps) w' fun e w'' => e = .returned (.bool (p x)) ∧ Below w'.heap.size w' w'') :
    Calls Tryd.prog 124 #[.slice A n c, .func (.func g) #[] caps] w fun e w' => e = .returned (.bool (xs.any p)) ∧ Below w.heap.size w w' := by
  have K := Lib.hid (indexIns ok g caps p w A n c xs hC hg H)
  have R := Lib.hid (idxF_ge p xs)
  clear hC H hg
  obtain ⟨r, hr⟩ : ∃ r, r = idxF p xs := ⟨_, rfl⟩
  rw [← hr] at K R
  clear hr
  rw [← R.out]
  by_cases h0 : 0 ≤ r
  · have hd : decide (0 ≤ r) = true := by simpa using h0
    rw [hd]
    clear hd R
    go_enter Tryd.func124, Tryd.ntmps124
    go_wp2_with fail
    refine (K.out).mono ?_
    rintro e w1 ⟨rfl, h1⟩
    have H1 := Lib.hid h1
    clear h1 K
    go_wp2_with fail
    go_ret
    exact ⟨by simp [h0], H1.out⟩
  · have hd : decide (0 ≤ r) = false := by simpa using h0
    rw [hd]
    clear hd R
    go_enter Tryd.func124, Tryd.ntmps124
    go_wp2_with fail
    refine (K.out).mono ?_
    rintro e w1 ⟨rfl, h1⟩
    have H1 := Lib.hid h1
    clear h1 K
    go_wp2_with fail
    go_ret
    exact ⟨by simp [h0], H1.out⟩

set_option maxRecDepth 100000 in
set_option maxHeartbeats 4000000 in
theorem indexFn (ok : Nat → Prop) (g : Nat) (caps : Array Value) (p : Fn → Bool) (w : World) (A : Option Addr) (n c : Nat) (xs : List Fn) (hC : rdFn.C ok w A n xs)
    (hg : ∀ args w, (callFunc g args).run Tryd.prog w = .ok (.enter g args) w)
    (H : ∀ x ∈ xs, ∀ w', Below w.heap.size w w' → ∀ v1 v2, SlK Rd.int ok w' x.caught v1 → SlK rdOrd ok w' x.code v2 → (Rd.IsInt x.params ∧ Rd.IsInt x.regs) → Calls Tryd.prog g (#[.agg #[.int .i64 x.params, .int .i64 x.regs, .bool x.gen, v1, v2]] ++ caps) w' fun e w'' => e = .returned (.bool (p x)) ∧ Below w'.heap.size w' w'') :
    Calls Tryd.prog 120 #[.slice A n c, .func (.func g) #[] caps] w fun e w' => e = .returned (.int .i64 (idxF p xs)) ∧ Below w.heap.size w w' := by
  have hn := hC.1
  have hn2 := hC.2.1
  have HC := Lib.hid hC
  have Hn := Lib.hid hn
  have HH := Lib.hid H
  have HG := Lib.hid hg
  clear hC hn H hg
  go_enter Tryd.func120, Tryd.ntmps120
  go_wp2_with fail
  go_loopw [8] (fun I w1 => ∃ i : Nat, I = .int .i64 (i : Int) ∧ i ≤ n ∧ (∀ x ∈ xs.take i, p x = false) ∧ Hid (Below w.heap.size w w1)) (fun i _ => n - (intOf i).toNat)
  case atStart => exact ⟨0, rfl, Nat.zero_le _, by simp, Lib.hid (Below.refl _ _)⟩
  case round =>
    obtain ⟨i, rfl, hi, ht, HB⟩ := hrel
    have HT := Lib.hid ht
    clear ht
    by_cases hlt : i < n
    · obtain ⟨x, hx⟩ : ∃ x, xs[i]? = some x := ⟨_, List.getElem?_eq_getElem (by rw [Hn.out]; exact hlt)⟩
      obtain ⟨ad, cs, rfl, _, hsz, ⟨v1, v2, rfl, hxi, hv1, hv2⟩, hc0, hcj⟩ := (HC.out.move (fun k _ hk => HB.out.block k hk)).elem i _ hx
      have e0 : wr.cell? (ad.add (i * 5)) = some (.int .i64 x.params) := hc0 _ rfl
      have e1 : wr.cell? ⟨(ad.add (i * 5)).block, (ad.add (i * 5)).off + 1, none⟩ = some (.int .i64 x.regs) := hcj 0 _ rfl
      have e2 : wr.cell? ⟨(ad.add (i * 5)).block, (ad.add (i * 5)).off + 2, none⟩ = some (.bool x.gen) := hcj 1 _ rfl
      have e3 : wr.cell? ⟨(ad.add (i * 5)).block, (ad.add (i * 5)).off + 3, none⟩ = some (v1) := hcj 2 _ rfl
      have e4 : wr.cell? ⟨(ad.add (i * 5)).block, (ad.add (i * 5)).off + 4, none⟩ = some (v2) := hcj 3 _ rfl
      have K0 := HH.out x (List.mem_of_getElem? hx) wr HB.out v1 v2 hv1 hv2 hxi
      have K := Lib.hid K0
      have HX := Lib.hid hx
      clear hc0 hcj hx K0
      cases hp : p x with
      | true =>
        have HR := Lib.hid (idxF_at p xs i HT.out x HX.out hp)
        go_wp2_with fail
        rw [HG.out, Oper.upon_enter]
        refine (K.out).mono ?_
        rintro e w1 ⟨rfl, h1⟩
        rw [hp]
        have HB1 := Lib.hid (HB.out.trans (h1.mono HB.out.size))
        clear h1
        go_wp2_with fail
        go_ret
        exact ⟨by rw [HR.out]; first | done | rfl, HB1.out⟩
      | false =>
        go_wp2_with fail
        rw [HG.out, Oper.upon_enter]
        refine (K.out).mono ?_
        rintro e w1 ⟨rfl, h1⟩
        rw [hp]
        have HB1 := Lib.hid (HB.out.trans (h1.mono HB.out.size))
        clear h1
        go_wp2_with fail
        go_roundw
        case rel =>
          refine ⟨i + 1, by go_num, hlt, fun y hy => ?_, HB1⟩
          rw [List.take_add_one, HX.out, List.mem_append] at hy
          rcases hy with hy | hy
          · exact HT.out y hy
          · simp at hy; rw [hy]; exact hp
        case measure => simp [intOf]; omega
    · go_wp2
      go_ret
      exact ⟨by rw [idxF_none p xs (fun x hx => HT.out x (by rwa [List.take_of_length_le (by rw [Hn.out]; omega)]))]; first | done | rfl, HB.out⟩

set_option maxRecDepth 100000 in
theorem containsFn (ok : Nat → Prop) (g : Nat) (caps : Array Value) (p : Fn → Bool) (w : World) (A : Option Addr) (n c : Nat) (xs : List Fn) (hC : rdFn.C ok w A n xs)
    (hg : ∀ args w, (callFunc g args).run Tryd.prog w = .ok (.enter g args) w)
    (H : ∀ x ∈ xs, ∀ w', Below w.heap.size w w' → ∀ v1 v2, SlK Rd.int ok w' x.caught v1 → SlK rdOrd ok w' x.code v2 → (Rd.IsInt x.params ∧ Rd.IsInt x.regs) → Calls Tryd.prog g (#[.agg #[.int .i64 x.params, .int .i64 x.regs, .bool x.gen, v1, v2]] ++ caps) w' fun e w'' => e = .returned (.bool (p x)) ∧ Below w'.heap.size w' w'') :
    Calls Tryd.prog 81 #[.slice A n c, .func (.func g) #[] caps] w fun e w' => e = .returned (.bool (xs.any p)) ∧ Below w.heap.size w w' := by
  have K := Lib.hid (indexFn ok g caps p w A n c xs hC hg H)
  have R := Lib.hid (idxF_ge p xs)
  clear hC H hg
  obtain ⟨r, hr⟩ : ∃ r, r = idxF p xs := ⟨_, rfl⟩
  rw [← hr] at K R
  clear hr
  rw [← R.out]
  by_cases h0 : 0 ≤ r
  · have hd : decide (0 ≤ r) = true := by simpa using h0
    rw [hd]
    clear hd R
    go_enter Tryd.func81, Tryd.ntmps81
    go_wp2_with fail
    refine (K.out).mono ?_
    rintro e w1 ⟨rfl, h1⟩
    have H1 := Lib.hid h1
    clear h1 K
    go_wp2_with fail
    go_ret
    exact ⟨by simp [h0], H1.out⟩
  · have hd : decide (0 ≤ r) = false := by simpa using h0
    rw [hd]
    clear hd R
    go_enter Tryd.func81, Tryd.ntmps81
    go_wp2_with fail
    refine (K.out).mono ?_
    rintro e w1 ⟨rfl, h1⟩
    have H1 := Lib.hid h1
    clear h1 K
    go_wp2_with fail
    go_ret
    exact ⟨by simp [h0], H1.out⟩

end Go.Proofs.YtefkifdhjabdiaaDoor
namespace Go.Proofs.YtefkifdhjabdiaaDoor
set_option linter.unusedVariables false
set_option linter.unusedSimpArgs false
open Go.RowKit

def withinF (n lo hi : Int) : Bool := decide (lo ≤ n) && decide (n ≤ hi)

theorem within_any (n lo hi : Int) (w : World) : Calls Tryd.prog 145 #[.int .i64 n, .int .i64 lo, .int .i64 hi] w fun e w' => e = .returned (.bool (withinF n lo hi)) ∧ w = w' := by
  by_cases h1 : lo ≤ n
  · by_cases h2 : n ≤ hi
    · rw [show withinF n lo hi = true by simp [withinF, h1, h2]]
      go_enter Tryd.func145, Tryd.ntmps145
      go_wp2
      go_ret
      exact ⟨rfl, rfl⟩
    · rw [show withinF n lo hi = false by simp [withinF, h1, h2]]
      go_enter Tryd.func145, Tryd.ntmps145
      go_wp2
      go_ret
      exact ⟨rfl, rfl⟩
  · rw [show withinF n lo hi = false by simp [withinF, h1]]
    go_enter Tryd.func145, Tryd.ntmps145
    go_wp2
    go_ret
    exact ⟨rfl, rfl⟩

/-- The cells of a look. -/
abbrev lookCells (vf vc vt : Value) (params regs : Int) (gen : Bool) (vca vco : Value) : Array Value := #[vf, vc, vt, .int .i64 params, .int .i64 regs, .bool gen, vca, vco]
section
variable (vf vc vt : Value) (params regs : Int) (gen : Bool) (vca vco : Value)
theorem reg_any (n : Int) (w : World) (hr : Rd.IsInt regs) (hr0 : 0 ≤ regs) : Calls Tryd.prog 147 #[.agg (lookCells vf vc vt params regs gen vca vco), .int .i64 n] w fun e w' => e = .returned (.bool (withinF n 0 (regs - 1))) ∧ Below w.heap.size w w' := by
  obtain ⟨r1, r2⟩ := hr
  go_enter Tryd.func147, Tryd.ntmps147
  go_wp2_with fail
  refine (within_any _ _ _ _).mono ?_
  rintro e w1 ⟨rfl, rfl⟩
  go_wp2_with fail
  go_ret
  exact ⟨rfl, (Below.refl _ _).alloc (Nat.le_refl _) _⟩
theorem at_any (A : Option Addr) (m c : Nat) (n : Int) (w : World) (hm : m ≤ 9223372036854775807) : Calls Tryd.prog 162 #[.agg (lookCells vf vc vt params regs gen vca (.slice A m c)), .int .i64 n] w fun e w' => e = .returned (.bool (withinF n 0 ((m : Int) - 1))) ∧ Below w.heap.size w w' := by
  go_enter Tryd.func162, Tryd.ntmps162
  go_wp2_with fail
  refine (within_any _ _ _ _).mono ?_
  rintro e w1 ⟨rfl, rfl⟩
  go_wp2_with fail
  go_ret
  exact ⟨rfl, (Below.refl _ _).alloc (Nat.le_refl _) _⟩
theorem text_any (A : Option Addr) (m c : Nat) (n : Int) (w : World) (hm : m ≤ 9223372036854775807) : Calls Tryd.prog 161 #[.agg (lookCells vf vc (.slice A m c) params regs gen vca vco), .int .i64 n] w fun e w' => e = .returned (.bool (withinF n 0 ((m : Int) - 1))) ∧ Below w.heap.size w w' := by
  go_enter Tryd.func161, Tryd.ntmps161
  go_wp2_with fail
  refine (within_any _ _ _ _).mono ?_
  rintro e w1 ⟨rfl, rfl⟩
  go_wp2_with fail
  go_ret
  exact ⟨rfl, (Below.refl _ _).alloc (Nat.le_refl _) _⟩
end

/-! ### large -/
def longText (t : ByteArray) : Bool := decide (200 < t.size)
def longFn (f : Fn) : Bool := decide (600 < f.code.length) || decide (60 < f.regs)
theorem large1_any (t : ByteArray) (w : World) (ht : t.size ≤ 9223372036854775807) : Calls Tryd.prog 114 #[.string t] w fun e w' => e = .returned (.bool (longText t)) ∧ Below w.heap.size w w' := by
  by_cases h : 200 < t.size
  · rw [show longText t = true by simp [longText, h]]
    go_enter Tryd.func114, Tryd.ntmps114
    go_wp2
    go_ret
    exact ⟨by first | (simp [h]; done) | (simp; omega), Below.refl _ _⟩
  · rw [show longText t = false by simp [longText, h]]
    go_enter Tryd.func114, Tryd.ntmps114
    go_wp2
    go_ret
    exact ⟨by first | (simp [h]; done) | (simp; omega), Below.refl _ _⟩
theorem large2_any (f : Fn) (w : World) (v1 : Value) (A : Option Addr) (c : Nat) (hl : f.code.length ≤ 9223372036854775807) : Calls Tryd.prog 115 #[.agg #[.int .i64 f.params, .int .i64 f.regs, .bool f.gen, v1, .slice A f.code.length c]] w fun e w' => e = .returned (.bool (longFn f)) ∧ Below w.heap.size w w' := by
  unfold longFn
  obtain ⟨params, regs, gen, caught, code⟩ := f
  simp only at hl ⊢
  generalize code.length = m at hl ⊢
  by_cases h : 600 < m
  · rw [show (decide (600 < m) || decide (60 < regs)) = true by simp [h]]
    go_enter Tryd.func115, Tryd.ntmps115
    go_wp2
    go_ret
    exact ⟨by first | rfl | (simp [h]; done) | (simp; omega), (Below.refl _ _).alloc (Nat.le_refl _) _⟩
  · by_cases h2 : 60 < regs
    · rw [show (decide (600 < m) || decide (60 < regs)) = true by simp [h2]]
      go_enter Tryd.func115, Tryd.ntmps115
      go_wp2
      go_ret
      exact ⟨by first | rfl | (simp [h]; done) | (simp; omega), (Below.refl _ _).alloc (Nat.le_refl _) _⟩
    · rw [show (decide (600 < m) || decide (60 < regs)) = false by simp [h, h2]]
      go_enter Tryd.func115, Tryd.ntmps115
      go_wp2
      go_ret
      exact ⟨by first | rfl | (simp [h]; done) | (simp; omega), (Below.refl _ _).alloc (Nat.le_refl _) _⟩
def largeF (p : Prog) : Bool := decide (60 < p.fns.length) || decide (200 < p.consts.length) || decide (200 < p.texts.length) || p.texts.any longText || p.fns.any longFn

theorem ent_large1 : ∀ args w, (callFunc 114 args).run Tryd.prog w = .ok (.enter 114 args) w := enters_of Tryd.func114 (by kernel_rfl) rfl
theorem ent_large2 : ∀ args w, (callFunc 115 args).run Tryd.prog w = .ok (.enter 115 args) w := enters_of Tryd.func115 (by kernel_rfl) rfl

set_option maxRecDepth 100000 in
theorem large_any (p : Prog) (ok : Nat → Prop) (w : World) (A1 A2 A3 : Option Addr) (c1 c2 c3 : Nat) (h1 : rdFn.C ok w A1 p.fns.length p.fns) (h2 : p.consts.length ≤ 9223372036854775807) (h3 : Rd.str.C ok w A3 p.texts.length p.texts) :
    Calls Tryd.prog 79 #[.agg #[.slice A1 p.fns.length c1, .slice A2 p.consts.length c2, .slice A3 p.texts.length c3]] w fun e w' => e = .returned (.bool (largeF p)) ∧ Below w.heap.size w w' := by
  have B0 : ∀ o, Below w.heap.size w (w.alloc o) := fun o => (Below.refl _ _).alloc (Nat.le_refl _) _
  have hn1 := h1.2.1
  have hn3 := h3.2.1
  have T : ∀ w', Below w.heap.size w w' → Calls Tryd.prog 113 #[.slice A3 p.texts.length c3, .func (.func 114) #[] #[]] w' fun e w'' => e = .returned (.bool (p.texts.any longText)) ∧ Below w'.heap.size w' w'' := fun w' hb =>
    containsStr ok _ #[] longText w' A3 _ c3 p.texts (h3.move (fun k _ hk => hb.block k hk)) ent_large1 (fun x hx w2 _ hi => large1_any x w2 hi)
  have F : ∀ w', Below w.heap.size w w' → Calls Tryd.prog 81 #[.slice A1 p.fns.length c1, .func (.func 115) #[] #[]] w' fun e w'' => e = .returned (.bool (p.fns.any longFn)) ∧ Below w'.heap.size w' w'' := fun w' hb =>
    containsFn ok _ #[] longFn w' A1 _ c1 p.fns (h1.move (fun k _ hk => hb.block k hk)) ent_large2 (fun x hx w2 _ v1 v2 hv1 hv2 hi => by
      obtain ⟨A, c, hv, _, _, _, hC⟩ := hv2
      injection hv with hv
      subst hv
      exact large2_any x w2 v1 A c hC.2.1)
  have HT := Lib.hid T
  have HF := Lib.hid F
  have HB := Lib.hid B0
  clear T F B0 h1 h3
  unfold largeF
  generalize p.texts.any longText = bt at HT ⊢
  generalize p.fns.any longFn = bf at HF ⊢
  generalize p.fns.length = n1 at hn1 HT HF ⊢
  generalize p.consts.length = n2 at h2 ⊢
  generalize p.texts.length = n3 at hn3 HT HF ⊢
  by_cases g1 : 60 < n1
  · rw [show (decide (60 < n1) || decide (200 < n2) || decide (200 < n3) || bt || bf) = true by simp [g1]]
    go_enter Tryd.func79, Tryd.ntmps79
    go_wp2_with fail
    go_ret
    exact ⟨by first | rfl | (simp; done) | (simp; omega), HB.out _⟩
  by_cases g2 : 200 < n2
  · rw [show (decide (60 < n1) || decide (200 < n2) || decide (200 < n3) || bt || bf) = true by simp [g2]]
    go_enter Tryd.func79, Tryd.ntmps79
    go_wp2_with fail
    go_ret
    exact ⟨by first | rfl | (simp; done) | (simp; omega), HB.out _⟩
  by_cases g3 : 200 < n3
  · rw [show (decide (60 < n1) || decide (200 < n2) || decide (200 < n3) || bt || bf) = true by simp [g3]]
    go_enter Tryd.func79, Tryd.ntmps79
    go_wp2_with fail
    go_ret
    exact ⟨by first | rfl | (simp; done) | (simp; omega), HB.out _⟩
  rw [show (decide (60 < n1) || decide (200 < n2) || decide (200 < n3) || bt || bf) = (bt || bf) by simp [g1, g2, g3]]
  cases bt with
  | true =>
    rw [Bool.true_or]
    go_enter Tryd.func79, Tryd.ntmps79
    go_wp2_with fail
    refine (HT.out _ (HB.out _)).mono ?_
    rintro e w1 ⟨rfl, hb⟩
    have H1 := Lib.hid ((HB.out _).trans (hb.mono (HB.out _).size))
    clear hb
    go_wp2_with fail
    go_ret
    exact ⟨by first | rfl | (simp; done) | (simp; omega), H1.out⟩
  | false =>
    rw [Bool.false_or]
    go_enter Tryd.func79, Tryd.ntmps79
    go_wp2_with fail
    refine (HT.out _ (HB.out _)).mono ?_
    rintro e w1 ⟨rfl, hb⟩
    have H1 := Lib.hid ((HB.out _).trans (hb.mono (HB.out _).size))
    have k0 : w1.cell? ⟨w.heap.size, 0, none⟩ = some (.slice A1 n1 c1) := by rw [hb.cell (p := ⟨w.heap.size, 0, none⟩) (by simp)]; simp
    clear hb
    go_wp2_with fail
    refine (HF.out _ H1.out).mono ?_
    rintro e w2 ⟨rfl, hb⟩
    have H2 := Lib.hid (H1.out.trans (hb.mono H1.out.size))
    clear hb
    go_wp2_with fail
    go_ret
    exact ⟨by first | rfl | (simp; done) | (simp; omega), H2.out⟩
end Go.Proofs.YtefkifdhjabdiaaDoor
namespace Go.Proofs.YtefkifdhjabdiaaDoor
set_option linter.unusedVariables false
set_option linter.unusedSimpArgs false
open Go.RowKit

/-- What an order's three places name, by the order: three letters. -/
def formF (op : Int) : Option (UInt8 × UInt8 × UInt8) :=
  if op = 1 then some (114, 107, 45) else
  if op = 2 then some (114, 114, 45) else
  if op = 3 then some (114, 114, 114) else
  if op = 4 then some (114, 114, 114) else
  if op = 5 then some (114, 114, 114) else
  if op = 6 then some (114, 114, 114) else
  if op = 7 then some (114, 114, 114) else
  if op = 8 then some (114, 114, 114) else
  if op = 9 then some (114, 114, 114) else
  if op = 10 then some (114, 114, 114) else
  if op = 11 then some (114, 114, 45) else
  if op = 12 then some (114, 114, 45) else
  if op = 13 then some (97, 45, 45) else
  if op = 14 then some (97, 45, 45) else
  if op = 15 then some (114, 97, 45) else
  if op = 16 then some (114, 45, 45) else
  if op = 17 then some (114, 114, 116) else
  if op = 18 then some (114, 116, 114) else
  if op = 19 then some (114, 108, 110) else
  if op = 20 then some (114, 114, 114) else
  if op = 21 then some (114, 114, 114) else
  if op = 22 then some (114, 45, 45) else
  if op = 23 then some (114, 114, 45) else
  if op = 24 then some (114, 114, 45) else
  if op = 25 then some (114, 117, 45) else
  if op = 26 then some (114, 102, 45) else
  if op = 27 then some (114, 99, 110) else
  if op = 28 then some (114, 45, 45) else
  if op = 29 then some (114, 45, 45) else
  if op = 30 then some (114, 97, 45) else
  if op = 31 then some (45, 45, 45) else
  if op = 32 then some (114, 114, 45) else
  if op = 33 then some (114, 45, 45) else
  if op = 34 then some (114, 45, 45) else
  if op = 35 then some (114, 114, 45) else
  if op = 36 then some (114, 114, 45) else
  if op = 37 then some (114, 45, 45) else
  if op = 38 then some (114, 45, 45) else
  none
def formS (op : Int) : ByteArray := match formF op with | some (a, b, c) => ⟨#[a, b, c]⟩ | none => ⟨#[]⟩
theorem form_none {op : Int} (h : op < 1 ∨ 39 ≤ op) : formF op = none := by
  unfold formF
  rw [if_neg (by omega)]
  rw [if_neg (by omega)]
  rw [if_neg (by omega)]
  rw [if_neg (by omega)]
  rw [if_neg (by omega)]
  rw [if_neg (by omega)]
  rw [if_neg (by omega)]
  rw [if_neg (by omega)]
  rw [if_neg (by omega)]
  rw [if_neg (by omega)]
  rw [if_neg (by omega)]
  rw [if_neg (by omega)]
  rw [if_neg (by omega)]
  rw [if_neg (by omega)]
  rw [if_neg (by omega)]
  rw [if_neg (by omega)]
  rw [if_neg (by omega)]
  rw [if_neg (by omega)]
  rw [if_neg (by omega)]
  rw [if_neg (by omega)]
  rw [if_neg (by omega)]
  rw [if_neg (by omega)]
  rw [if_neg (by omega)]
  rw [if_neg (by omega)]
  rw [if_neg (by omega)]
  rw [if_neg (by omega)]
  rw [if_neg (by omega)]
  rw [if_neg (by omega)]
  rw [if_neg (by omega)]
  rw [if_neg (by omega)]
  rw [if_neg (by omega)]
  rw [if_neg (by omega)]
  rw [if_neg (by omega)]
  rw [if_neg (by omega)]
  rw [if_neg (by omega)]
  rw [if_neg (by omega)]
  rw [if_neg (by omega)]
  rw [if_neg (by omega)]
theorem form_cases {op : Int} (h1 : 1 ≤ op) (h2 : op < 39) : op = 1 ∨ op = 2 ∨ op = 3 ∨ op = 4 ∨ op = 5 ∨ op = 6 ∨ op = 7 ∨ op = 8 ∨ op = 9 ∨ op = 10 ∨ op = 11 ∨ op = 12 ∨ op = 13 ∨ op = 14 ∨ op = 15 ∨ op = 16 ∨ op = 17 ∨ op = 18 ∨ op = 19 ∨ op = 20 ∨ op = 21 ∨ op = 22 ∨ op = 23 ∨ op = 24 ∨ op = 25 ∨ op = 26 ∨ op = 27 ∨ op = 28 ∨ op = 29 ∨ op = 30 ∨ op = 31 ∨ op = 32 ∨ op = 33 ∨ op = 34 ∨ op = 35 ∨ op = 36 ∨ op = 37 ∨ op = 38 := by omega
def formTab : Array Value := #[.string ⟨#[]⟩, .string ⟨#[114, 107, 45]⟩, .string ⟨#[114, 114, 45]⟩, .string ⟨#[114, 114, 114]⟩, .string ⟨#[114, 114, 114]⟩, .string ⟨#[114, 114, 114]⟩, .string ⟨#[114, 114, 114]⟩, .string ⟨#[114, 114, 114]⟩, .string ⟨#[114, 114, 114]⟩, .string ⟨#[114, 114, 114]⟩, .string ⟨#[114, 114, 114]⟩, .string ⟨#[114, 114, 45]⟩, .string ⟨#[114, 114, 45]⟩, .string ⟨#[97, 45, 45]⟩, .string ⟨#[97, 45, 45]⟩, .string ⟨#[114, 97, 45]⟩, .string ⟨#[114, 45, 45]⟩, .string ⟨#[114, 114, 116]⟩, .string ⟨#[114, 116, 114]⟩, .string ⟨#[114, 108, 110]⟩, .string ⟨#[114, 114, 114]⟩, .string ⟨#[114, 114, 114]⟩, .string ⟨#[114, 45, 45]⟩, .string ⟨#[114, 114, 45]⟩, .string ⟨#[114, 114, 45]⟩, .string ⟨#[114, 117, 45]⟩, .string ⟨#[114, 102, 45]⟩, .string ⟨#[114, 99, 110]⟩, .string ⟨#[114, 45, 45]⟩, .string ⟨#[114, 45, 45]⟩, .string ⟨#[114, 97, 45]⟩, .string ⟨#[45, 45, 45]⟩, .string ⟨#[114, 114, 45]⟩, .string ⟨#[114, 45, 45]⟩, .string ⟨#[114, 45, 45]⟩, .string ⟨#[114, 114, 45]⟩, .string ⟨#[114, 114, 45]⟩, .string ⟨#[114, 45, 45]⟩, .string ⟨#[114, 45, 45]⟩]
theorem formTab_at : ∀ i : Nat, i < 39 → formTab[i]? = some (.string (formS i)) := by
  intro i hi
  rcases Nat.lt_or_ge i 1 with h | h
  · obtain rfl : i = 0 := by omega
    rfl
  · rcases form_cases (op := i) (by omega) (by omega) with h | h | h | h | h | h | h | h | h | h | h | h | h | h | h | h | h | h | h | h | h | h | h | h | h | h | h | h | h | h | h | h | h | h | h | h | h | h
    all_goals
      obtain rfl := Int.ofNat.inj h
      rfl
theorem wpList_build_eq {P : Program} {ops : Array Oper} {rest : List Oper} {o : Oper} {a : Act} {w : World} {Q : Exit → Act → World → Prop} (hg : o.guard = none) (t : TypeId) (parts : Array (Nat × Operand)) (ho : o.op = .build t parts) (cells : Array Value)
    (hf : P.built t (parts.map fun (i, x) => (i, a.eval x)).toList = some cells)
    (h : wpList P ops Q rest (a.put o.dst (.agg cells)) w) : wpList P ops Q (o :: rest) a w := by
  refine wpList_build hg t parts ho (by rw [hf]; rfl) ?_
  rw [hf]
  exact h
theorem wpList_store_tab {P : Program} {ops : Array Oper} {rest : List Oper} {o : Oper} {a : Act} {w : World} {Q : Exit → Act → World → Prop} (hgd : o.guard = none) (ty : TypeId) (x y : Operand) (ho : o.op = .store ty x y)
    (g : Nat) (cells : Array Value) (hx : a.eval x = .pointer (some ⟨g, 0, none⟩)) (hy : a.eval y = .agg cells)
    (t : TypeId) (old : Array Value) (hg : w.heap[g]? = some (.cells old t (0, 0))) (hi : (P.info? ty).map (·.size) = some cells.size)
    (hold : old.size = cells.size) (h1 : cells.all (·.oneCell') = true)
    (R : World → Prop) (hR : R (w.setRow g cells)) (h : ∀ w1, R w1 → wpList P ops Q rest (a.put o.dst undef) w1) : wpList P ops Q (o :: rest) a w :=
  wpList_store_row hgd ty x y ho g cells hx hy t old hg hi hold h1 (h _ hR)
theorem below_setRow_new (w : World) (o : Obj) (cells : Array Value) : Below w.heap.size w ((w.alloc o).setRow w.heap.size cells) := by
  have h := (Below.refl w.heap.size w).alloc (Nat.le_refl _) o
  exact ⟨h.os, h.tape, h.output, by simp, fun k hk => by rw [setRow_other _ _ _ _ (by omega)]; exact h.block k hk⟩
theorem tab_cell (w : World) (old : Array Value) (t : TypeId) (i : Nat) (hi : i < 39) : ((w.alloc (.cells old t)).setRow w.heap.size formTab).cell? ⟨w.heap.size, i, none⟩ = some (.string (formS i)) := by
  rw [cell_setRow_same _ _ _ _ _ _ _ (heap_alloc_new _ _)]
  exact formTab_at i hi
set_option maxRecDepth 100000 in
set_option maxHeartbeats 8000000 in
theorem form_any (op : Int) (w : World) : Calls Tryd.prog 144 #[.int .i64 op] w fun e w' => e = .returned (.string (formS op)) ∧ Below w.heap.size w w' := by
  by_cases h1 : op < 1
  · rw [show formS op = ⟨#[]⟩ by simp only [formS, form_none (.inl h1)]]
    go_enter Tryd.func144, Tryd.ntmps144
    go_wp2_with (first | (with_reducible refine wpList_build_eq rfl _ _ rfl formTab (by as_aux_lemma => kernel_rfl) ?_) | (with_reducible refine wpList_store_tab rfl _ _ _ rfl _ formTab rfl rfl _ _ (heap_alloc_new _ _) (by as_aux_lemma => kernel_rfl) rfl (by as_aux_lemma => kernel_rfl) (fun w1 => Hid (Below w.heap.size w w1)) (Lib.hid (below_setRow_new _ _ _)) ?_; intro w1 hb))
    go_ret
    exact ⟨rfl, hb.out⟩
  by_cases h2 : 39 ≤ op
  · rw [show formS op = ⟨#[]⟩ by simp only [formS, form_none (.inr h2)]]
    go_enter Tryd.func144, Tryd.ntmps144
    go_wp2_with (first | (with_reducible refine wpList_build_eq rfl _ _ rfl formTab (by as_aux_lemma => kernel_rfl) ?_) | (with_reducible refine wpList_store_tab rfl _ _ _ rfl _ formTab rfl rfl _ _ (heap_alloc_new _ _) (by as_aux_lemma => kernel_rfl) rfl (by as_aux_lemma => kernel_rfl) (fun w1 => Hid (Below w.heap.size w w1)) (Lib.hid (below_setRow_new _ _ _)) ?_; intro w1 hb))
    go_ret
    exact ⟨rfl, hb.out⟩
  obtain ⟨i, rfl⟩ := Int.eq_ofNat_of_zero_le (show 0 ≤ op by omega)
  have hi : i < 39 := by omega
  go_enter Tryd.func144, Tryd.ntmps144
  go_wp2_with (first | (with_reducible refine wpList_build_eq rfl _ _ rfl formTab (by as_aux_lemma => kernel_rfl) ?_) | (with_reducible refine wpList_store_tab rfl _ _ _ rfl _ formTab rfl rfl _ _ (heap_alloc_new _ _) (by as_aux_lemma => kernel_rfl) rfl (by as_aux_lemma => kernel_rfl) (fun w1 => w1.cell? ⟨w.heap.size, i, none⟩ = some (.string (formS i)) ∧ Hid (Below w.heap.size w w1)) ⟨tab_cell _ _ _ _ hi, Lib.hid (below_setRow_new _ _ _)⟩ ?_; rintro w1 ⟨e0, hb⟩))
  go_ret
  exact ⟨rfl, hb.out⟩
end Go.Proofs.YtefkifdhjabdiaaDoor
namespace Go.Proofs.YtefkifdhjabdiaaDoor
set_option linter.unusedVariables false
set_option linter.unusedSimpArgs false
/-- What a look knows: how many functions, constants, texts, registers, caught ones, orders. -/
structure Lk where
  nf : Nat
  nc : Nat
  nt : Nat
  regs : Int
  ng : Nat
  no : Nat
def namesF (l : Lk) (c : UInt8) (n : Int) : Bool :=
  if c = 114 then withinF n 0 (l.regs - 1)
  else if c = 107 then withinF n 0 ((l.nc : Int) - 1)
  else if c = 116 then withinF n 0 ((l.nt : Int) - 1)
  else if c = 97 then withinF n 0 ((l.no : Int) - 1)
  else if c = 117 then withinF n 0 ((l.ng : Int) - 1)
  else if c = 102 then withinF n 1 ((l.nf : Int) - 1)
  else if c = 108 ∨ c = 99 ∨ c = 110 then withinF n 0 l.regs
  else decide (n = 0)
/-- The letters that occur. -/
theorem form_letters {op : Int} {a b c : UInt8} (h : formF op = some (a, b, c)) : (a = 114 ∨ a = 97 ∨ a = 45) ∧ (b = 114 ∨ b = 107 ∨ b = 97 ∨ b = 116 ∨ b = 108 ∨ b = 117 ∨ b = 102 ∨ b = 99 ∨ b = 45) ∧ (c = 114 ∨ c = 116 ∨ c = 110 ∨ c = 45) := by
  rcases Int.lt_or_le op 1 with h1 | h1
  · rw [form_none (.inl h1)] at h; cases h
  rcases Int.lt_or_le op 39 with h2 | h2
  · rcases form_cases h1 h2 with rfl | rfl | rfl | rfl | rfl | rfl | rfl | rfl | rfl | rfl | rfl | rfl | rfl | rfl | rfl | rfl | rfl | rfl | rfl | rfl | rfl | rfl | rfl | rfl | rfl | rfl | rfl | rfl | rfl | rfl | rfl | rfl | rfl | rfl | rfl | rfl | rfl | rfl
    all_goals
      have h : some _ = some (a, b, c) := h
      injection h with h
      injection h with ha h
      injection h with hb hc
      subst ha hb hc
      decide
  · rw [form_none (.inr h2)] at h; cases h
def caughtF (regs : Int) (ng : Nat) (cs : List Int) : Bool := !(cs.any fun c => !withinF c 0 (regs - 1) && !withinF c (-(ng : Int)) (-1))
def ordTailF (fns : List Fn) (l : Lk) (gen : Bool) (at_ : Int) (i : Ord) : Bool :=
  if i.op = 14 then decide (i.a ≤ at_)
  else if i.op = 19 then decide (i.b + i.c ≤ l.regs)
  else if i.op = 27 then withinF (i.b + i.c) 0 (l.regs - 1)
  else if i.op = 26 then match fns[i.b.toNat]? with | some f => caughtF l.regs l.ng f.caught | none => true
  else if i.op = 32 then gen
  else true
def orderF (fns : List Fn) (l : Lk) (gen : Bool) (at_ : Int) (i : Ord) : Bool :=
  match formF i.op with
  | none => false
  | some (a, b, c) => withinF i.line 0 2000 && namesF l a i.a && namesF l b i.b && namesF l c i.c && ordTailF fns l gen at_ i
theorem within_iff {n lo hi : Int} : withinF n lo hi = true ↔ lo ≤ n ∧ n ≤ hi := by simp [withinF]
end Go.Proofs.YtefkifdhjabdiaaDoor
namespace Go.Proofs.YtefkifdhjabdiaaDoor
set_option linter.unusedVariables false
set_option linter.unusedSimpArgs false
open Go.RowKit

structure Tr where
  reg : Int
  at_ : Int
deriving DecidableEq
def Tr.cells (s : Tr) : Array Value := #[.int .i64 s.reg, .int .i64 s.at_]
def rdTry : Rd Tr where
  sz := 2
  K := fun _ _ x cs => cs = x.cells.toList ∧ Rd.IsInt x.reg ∧ Rd.IsInt x.at_
  len := fun h' => by rw [h'.1]; rfl
  one := fun h' u hu => by
    rw [h'.1] at hu
    simp [Tr.cells] at hu
    rcases hu with h | h <;> rw [h] <;> rfl
  move := fun _ h => h
  mono := fun _ h => h
  bound := fun h => h

set_option maxRecDepth 100000 in
set_option maxHeartbeats 4000000 in
/-- Whether two lists of tries are the same. -/
theorem eqTry_any (w : World) (A B : Option Addr) (n m c c' : Nat) (xs ys : List Tr) (ok ok' : Nat → Prop) (hA : rdTry.C ok w A n xs) (hB : rdTry.C ok' w B m ys) :
    Calls Tryd.prog 164 #[.slice A n c, .slice B m c'] w fun e w' => e = .returned (.bool (decide (xs = ys))) ∧ Below w.heap.size w w' := by
  have hn := hA.1
  have hm := hB.1
  have hn2 := hA.2.1
  by_cases hnm : n = m
  · subst hnm
    have hd : ((n : Int) != (n : Int)) = false := by simp
    have HA := Lib.hid hA
    have HB := Lib.hid hB
    have Hn := Lib.hid hn
    have Hm := Lib.hid hm
    clear hA hB hn hm
    go_enter Tryd.func164, Tryd.ntmps164
    go_wp2_with fail
    go_loopw [13] (fun I w1 => ∃ i : Nat, I = .int .i64 (i : Int) ∧ i ≤ n ∧ xs.take i = ys.take i ∧ Hid (Below w.heap.size w w1)) (fun i _ => n - (intOf i).toNat)
    case atStart => exact ⟨0, rfl, Nat.zero_le _, rfl, Lib.hid (Below.refl _ _)⟩
    case round =>
      obtain ⟨i, rfl, hi, ht, HW⟩ := hrel
      have HT := Lib.hid ht
      clear ht
      by_cases hlt : i < n
      · obtain ⟨x, hx⟩ : ∃ x, xs[i]? = some x := ⟨_, List.getElem?_eq_getElem (by rw [Hn.out]; exact hlt)⟩
        obtain ⟨y, hy⟩ : ∃ y, ys[i]? = some y := ⟨_, List.getElem?_eq_getElem (by rw [Hm.out]; exact hlt)⟩
        obtain ⟨ad, cs, rfl, _, _, ⟨rfl, _⟩, hc0, hcj⟩ := (HA.out.move (fun k _ hk => HW.out.block k hk)).elem i _ hx
        obtain ⟨bd, cs, rfl, _, _, ⟨rfl, _⟩, hd0, hdj⟩ := (HB.out.move (fun k _ hk => HW.out.block k hk)).elem i _ hy
        have e0 : wr.cell? (ad.add (i * 2)) = some (.int .i64 x.reg) := hc0 _ rfl
        have e1 : wr.cell? (bd.add (i * 2)) = some (.int .i64 y.reg) := hd0 _ rfl
        have e2 : wr.cell? ⟨(ad.add (i * 2)).block, (ad.add (i * 2)).off + 1, none⟩ = some (.int .i64 x.at_) := hcj 0 _ rfl
        have e3 : wr.cell? ⟨(bd.add (i * 2)).block, (bd.add (i * 2)).off + 1, none⟩ = some (.int .i64 y.at_) := hdj 0 _ rfl
        have hx' := Lib.hid hx
        have hy' := Lib.hid hy
        clear hc0 hd0 hcj hdj hx hy
        obtain ⟨xr, xa⟩ := x
        obtain ⟨yr, ya⟩ := y
        simp only at e0 e1 e2 e3
        have hlt1 : (i : Int) < (n : Int) := by omega
        have hlt2 : (0 : Int) ≤ (i : Int) := by omega
        by_cases hr : xr = yr
        · subst hr
          by_cases ha : xa = ya
          · subst ha
            go_wp2_with fail
            go_quiet (fail)
            go_wp2_with fail
            go_roundw
            case rel => exact ⟨i + 1, by go_num, hlt, by rw [List.take_add_one, List.take_add_one, HT.out, hx'.out, hy'.out], Lib.hid ⟨HW.out.os, HW.out.tape, HW.out.output, HW.out.size, HW.out.block⟩⟩
            case measure => simp [intOf]; omega
          · have hb : (xa != ya) = true := by simpa using ha
            have hb' : (xa == ya) = false := by simpa using ha
            go_wp2_with fail
            go_quiet (fail)
            go_wp2_with fail
            go_ret
            refine ⟨?_, ⟨HW.out.os, HW.out.tape, HW.out.output, HW.out.size, HW.out.block⟩⟩
            have : ¬ xs = ys := fun h => ha (by have := hx'.out; rw [h, hy'.out] at this; injection this with this; injection this with _ this; exact this.symm)
            simp [this]
        · have hb : (xr != yr) = true := by simpa using hr
          have hb' : (xr == yr) = false := by simpa using hr
          go_wp2_with fail
          go_quiet (fail)
          go_wp2_with fail
          go_ret
          refine ⟨?_, ⟨HW.out.os, HW.out.tape, HW.out.output, HW.out.size, HW.out.block⟩⟩
          have : ¬ xs = ys := fun h => hr (by have := hx'.out; rw [h, hy'.out] at this; injection this with this; injection this with this _; exact this.symm)
          simp [this]
      · go_wp2_with fail
        go_ret
        refine ⟨?_, HW.out⟩
        have h1 := HT.out
        rw [List.take_of_length_le (by rw [Hn.out]; omega), List.take_of_length_le (by rw [Hm.out]; omega)] at h1
        simp [h1]
  · have hb : ((n : Int) != (m : Int)) = true := by simp; omega
    have hne : decide (xs = ys) = false := by
      simp only [decide_eq_false_iff_not]
      intro h; rw [h] at hn; omega
    have Hne := Lib.hid hne
    clear hne hn hm hA hB
    rw [Hne.out]
    go_enter Tryd.func164, Tryd.ntmps164
    go_wp2_with fail
    go_ret
    exact ⟨rfl, Below.refl _ _⟩
end Go.Proofs.YtefkifdhjabdiaaDoor
namespace Go.Proofs.YtefkifdhjabdiaaDoor
set_option linter.unusedVariables false
set_option linter.unusedSimpArgs false
open Go.RowKit

theorem run_eql_some_nil {P : Program} (w : World) (t e : TypeId) (a : Addr) (n c : Nat) (h : P.underlying t = some (.slice e)) : (binOp .eql t (.slice (some a) n c) (.slice none 0 0)).run P w = .ok (.bool false) w := by
  simp only [binOp]
  simp [Op.equal, Op.maxDepth, Lib.run_equalIn_slice_nil w 9999 t e (some a) n c 0 0 h]

theorem run_eql_nil_nil {P : Program} (w : World) (t e : TypeId) (h : P.underlying t = some (.slice e)) : (binOp .eql t (.slice none 0 0) (.slice none 0 0)).run P w = .ok (.bool true) w := by
  simp only [binOp]
  simp [Op.equal, Op.maxDepth, Lib.run_equalIn_slice_nil w 9999 t e none 0 0 0 0 h]
theorem infoTry : (Tryd.prog.info? 226).map (fun i => (i.zero, i.size, i.bytes)) = some (some (Value.agg #[.int .i64 0, .int .i64 0]), 2, 16) := by kernel_rfl
/-- A slice just laid, with no room. -/
theorem Own.laid {α : Type} (d : Rd α) (e : TypeId) (ok : Nat → Prop) (w : World) (base : Nat) (hb : base ≤ w.heap.size) : Own d e ok (w.alloc (.cells #[] e)) base (.slice (some ⟨w.heap.size, 0, none⟩) 0 0) [] :=
  ⟨[], ⟨by simp, .inr ⟨w.heap.size, 0, #[], rfl, hb, heap_alloc_new _ _, Nat.le_refl _, by simp [maxLen], by simp, by simp⟩⟩, fun i x h => by simp at h⟩
/-- Of what leads nowhere: whatever may be read. -/
theorem Own.any {e : TypeId} {ok ok' : Nat → Prop} {w : World} {base : Nat} {v : Value} {xs : List Tr} (h : Own rdTry e ok w base v xs) : Own rdTry e ok' w base v xs := by
  obtain ⟨c, h1, h2⟩ := h.ex
  exact ⟨c, h1, fun i x hi => h2 i x hi⟩

set_option maxRecDepth 100000 in
set_option maxHeartbeats 4000000 in
theorem cloneTry_any (ok : Nat → Prop) (w : World) (v : Value) (xs : List Tr) (h : SlK rdTry ok w xs v) (hl : xs.length ≤ 1000) :
    Calls Tryd.prog 165 #[v] w fun e w' => ∃ v1, e = .returned v1 ∧ Below w.heap.size w w' ∧ Own rdTry 226 (fun _ => False) w' w.heap.size v1 xs := by
  obtain ⟨A, c, hv, h1, h2, h3, hC⟩ := h
  injection hv with hv
  subst hv
  cases A with
  | none =>
    have hc : c = 0 := h3 rfl
    subst hc
    have hx : xs = [] := List.eq_nil_of_length_eq_zero (by omega)
    subst hx
    clear hC h1 h2 h3 hl
    have hq : ([] : List Tr).length = 0 := rfl
    rw [hq]
    have heq : ∀ w, (binOp .eql 223 (.slice none 0 0) (.slice none 0 0)).run Tryd.prog w = .ok (.bool true) w := fun w => run_eql_nil_nil w _ _ Tryd.underlying223
    go_enter Tryd.func165, Tryd.ntmps165
    go_wp2_with fail
    go_ret
    exact ⟨_, rfl, Below.refl _ _, Own.nil _ _ _ _ _⟩
  | some a =>
    have heq : ∀ w, (binOp .eql 223 (.slice (some a) xs.length c) (.slice none 0 0)).run Tryd.prog w = .ok (.bool false) w := fun w => run_eql_some_nil w _ _ _ _ _ Tryd.underlying223
    have hB : Below w.heap.size w (w.alloc (.cells #[] 226)) := (Below.refl _ _).alloc (Nat.le_refl _) _
    obtain ⟨v1, w2, hr, ho, hg, hat⟩ := (Own.laid rdTry 226 (fun k => ok k ∧ k < w.heap.size) w w.heap.size (Nat.le_refl _)).append (t := 223) Tryd.underlying223 infoTry rfl (by decide) (by decide) (some a) xs.length c (fun h => by cases h) ((hC.bound).move (fun k hk _ => hB.block k hk.2)) (fun k hk => ⟨hk, by simp only [Value.ownBlock]; intro he; injection he with he; omega⟩) (by simp; omega) (by simp) 223
    have hres : Below w.heap.size w w2 ∧ Own rdTry 226 (fun _ => False) w2 w.heap.size v1 xs := by
      refine ⟨hB.grown hg hB.size (fun k hk => by simp [Value.ownBlock] at hk; omega), ?_⟩
      rw [List.nil_append] at ho
      exact ho.any
    have H := Lib.hid hres
    clear hres ho hg hat hB hC h3 h1 h2 hl
    generalize xs.length = m at *
    go_enter Tryd.func165, Tryd.ntmps165
    go_wp2_with (at_builtin; refine wpList_append_eq rfl _ _ _ rfl _ _ rfl rfl hr ?_)
    go_ret
    exact ⟨_, rfl, H.out.1, H.out.2⟩
end Go.Proofs.YtefkifdhjabdiaaDoor
namespace Go.Proofs.YtefkifdhjabdiaaDoor
set_option linter.unusedVariables false
set_option linter.unusedSimpArgs false
open Go.RowKit

structure St where
  seen : List Bool
  out : List (List Tr)
  todo : List Int
  bad : Bool
def comeF (n : Nat) (st : St) (at_ : Int) (l : List Tr) : St :=
  if (n : Int) ≤ at_ ∨ 20 < l.length then { st with bad := true }
  else if st.seen[at_.toNat]? = some false then { st with seen := st.seen.set at_.toNat true, out := st.out.set at_.toNat l, todo := st.todo ++ [at_] }
  else if st.out[at_.toNat]? = some l then st
  else { st with bad := true }

theorem cell_at {w : World} {b : Nat} {cs : Array Value} {t : TypeId} {fr : Nat × Nat} (h : w.heap[b]? = some (.cells cs t fr)) (i : Nat) {v : Value} (hi : cs[i]? = some v) : w.cell? ⟨b, i, none⟩ = some v := by
  rw [World.cell?, h]; exact hi
/-- A block just laid reads as laid. -/
theorem laid_cell {w : World} (cs : Array Value) (t : TypeId) (i : Nat) (v : Value) (h : cs[i]? = some v) : (w.alloc (.cells cs t)).cell? ⟨w.heap.size, i, none⟩ = some v := by
  rw [World.cell?, heap_alloc_new]; exact h
theorem free_at {w : World} {b : Nat} {cs : Array Value} {t : TypeId} (h : w.heap[b]? = some (.cells cs t (0, 0))) (i : Nat) : w.frozen? ⟨b, i, none⟩ = false := by
  simp [World.frozen?, h]
theorem block_set {w : World} {b : Nat} {cs : Array Value} {t : TypeId} {fr : Nat × Nat} (h : w.heap[b]? = some (.cells cs t fr)) (i : Nat) (v : Value) : (w.setCell ⟨b, i, none⟩ v).heap[b]? = some (.cells (cs.setIfInBounds i v) t fr) := by
  have hlt : b < w.heap.size := (Array.getElem?_eq_some_iff.1 h).1
  have h' : w.heap[b] = .cells cs t fr := (Array.getElem?_eq_some_iff.1 h).2
  show (w.heap.modify b _)[b]? = _
  rw [Array.getElem?_eq_getElem (by simpa using hlt), Array.getElem_modify_self, h']
  rfl

/-- The fields of a walk that stay. -/
structure Wf where
  n : Nat
  wb : Nat
  sb : Nat
  ob : Nat
  params : Int
  regs : Int
  gen : Bool
  v1 : Value
  A5 : Option Addr
  c5 : Nat
abbrev Wf.cells (f : Wf) (vt : Value) (bad : Bool) : Array Value := #[.int .i64 f.params, .int .i64 f.regs, .bool f.gen, f.v1, .slice f.A5 f.n f.c5, .slice (some ⟨f.sb, 0, none⟩) f.n f.n, .slice (some ⟨f.ob, 0, none⟩) f.n f.n, vt, .bool bad]
/-- What a walk's lists of tries may lie in. -/
def Wf.ok (f : Wf) (vt : Value) (k : Nat) : Prop := k ≠ f.wb ∧ k ≠ f.sb ∧ k ≠ f.ob ∧ some k ≠ vt.ownBlock
structure WS (w : World) (base : Nat) (f : Wf) (vt : Value) (st : St) : Prop where
  hw : w.heap[f.wb]? = some (.cells (f.cells vt st.bad) 210 (0, 0))
  hs : w.heap[f.sb]? = some (.cells (st.seen.map Value.bool).toArray 4 (0, 0))
  ho : ∃ outv : List Value, w.heap[f.ob]? = some (.cells outv.toArray 223 (0, 0)) ∧ outv.length = f.n ∧ ∀ (i : Nat) (v : Value) (l : List Tr), outv[i]? = some v → st.out[i]? = some l → SlK rdTry (f.ok vt) w l v
  own : Own Rd.int 3 (fun _ => False) w base vt st.todo
  ne : f.wb ≠ f.sb ∧ f.sb ≠ f.ob ∧ f.wb ≠ f.ob ∧ base ≤ f.wb ∧ base ≤ f.sb ∧ base ≤ f.ob
  tb : vt.ownBlock ≠ some f.wb ∧ vt.ownBlock ≠ some f.sb ∧ vt.ownBlock ≠ some f.ob
  ls : st.seen.length = f.n
  lo : st.out.length = f.n
  hn : f.n ≤ 600

theorem WS.same {w w1 : World} {base : Nat} {f : Wf} {vt : Value} {st : St} (h : WS w base f vt st) (hk : ∀ k, k < w.heap.size → w1.heap[k]? = w.heap[k]?) : WS w1 base f vt st := by
  have lt : ∀ {k o}, w.heap[k]? = some o → k < w.heap.size := fun h => (Array.getElem?_eq_some_iff.1 h).1
  obtain ⟨outv, h1, h2, h3⟩ := h.ho
  exact ⟨(hk _ (lt h.hw)).trans h.hw, (hk _ (lt h.hs)).trans h.hs, ⟨outv, (hk _ (lt h1)).trans h1, h2, fun i v l hv hl => (Rd.slice rdTry).move (fun k _ hlt => hk k hlt) (h3 i v l hv hl)⟩, h.own.move (fun k _ hlt => hk k hlt), h.ne, h.tb, h.ls, h.lo, h.hn⟩
/-- What a step keeps: whatever is not the walk's own. -/
structure Kept (f : Wf) (w w1 : World) (vt vt1 : Value) : Prop where
  block : ∀ k, k < w.heap.size → f.ok vt k → w1.heap[k]? = w.heap[k]?
  own : ∀ k, k < w.heap.size → some k ≠ vt.ownBlock → some k ≠ vt1.ownBlock
  size : w.heap.size ≤ w1.heap.size
theorem Kept.refl (f : Wf) (w : World) (vt : Value) : Kept f w w vt vt := ⟨fun _ _ _ => rfl, fun _ _ h => h, Nat.le_refl _⟩
theorem Kept.trans {f : Wf} {w w1 w2 : World} {vt vt1 vt2 : Value} (h : Kept f w w1 vt vt1) (h1 : Kept f w1 w2 vt1 vt2) : Kept f w w2 vt vt2 :=
  ⟨fun k hk ho => (h1.block k (Nat.lt_of_lt_of_le hk h.size) ⟨ho.1, ho.2.1, ho.2.2.1, h.own k hk ho.2.2.2⟩).trans (h.block k hk ho), fun k hk hv => h1.own k (Nat.lt_of_lt_of_le hk h.size) (h.own k hk hv), Nat.le_trans h.size h1.size⟩
theorem Kept.same {f : Wf} {w w1 : World} {vt : Value} (hb : Below w.heap.size w w1) : Kept f w w1 vt vt := ⟨fun k hk _ => hb.block k hk, fun _ _ h => h, hb.size⟩
/-- A list of tries stays. -/
theorem Kept.list {f : Wf} {w w1 : World} {vt vt1 : Value} (h : Kept f w w1 vt vt1) {l : List Tr} {v : Value} (hl : SlK rdTry (f.ok vt) w l v) : SlK rdTry (f.ok vt1) w1 l v :=
  (Rd.slice rdTry).mono (fun k hk => ⟨hk.1.1, hk.1.2.1, hk.1.2.2.1, h.own k hk.2 hk.1.2.2.2⟩) ((Rd.slice rdTry).move (fun k hk _ => h.block k hk.2 hk.1) ((Rd.slice rdTry).bound hl))
theorem Kept.wbset (f : Wf) (w : World) (i : Nat) (u : Value) (vt : Value) : Kept f w (w.setCell ⟨f.wb, i, none⟩ u) vt vt :=
  ⟨fun k _ ho => Below.heap_setCell _ _ _ _ ho.1, fun _ _ h => h, by simp [World.setCell]⟩
/-- The mark that it is bad. -/
theorem WS.setBad {w : World} {base : Nat} {f : Wf} {vt : Value} {st : St} (h : WS w base f vt st) : WS (w.setCell ⟨f.wb, 8, none⟩ (.bool true)) base f vt { st with bad := true } := by
  obtain ⟨n1, n2, n3, b1, b2, b3⟩ := h.ne
  obtain ⟨t1, t2, t3⟩ := h.tb
  have K : ∀ k, k ≠ f.wb → (w.setCell ⟨f.wb, 8, none⟩ (.bool true)).heap[k]? = w.heap[k]? := fun k hk => Below.heap_setCell _ _ _ _ hk
  have hq : ∀ k, (False ∨ vt.ownBlock = some k) → k ≠ f.wb := by
    rintro k (hk | hk) rfl
    · exact hk
    · exact t1 hk
  obtain ⟨outv, h1, h2, h3⟩ := h.ho
  refine ⟨?_, (K _ (Ne.symm n1)).trans h.hs, ⟨outv, (K _ (Ne.symm n3)).trans h1, h2, fun i v l hv hl => (Rd.slice rdTry).move (fun k hk _ => K k hk.1) (h3 i v l hv hl)⟩, h.own.move (fun k hk _ => K k (hq k hk)), h.ne, h.tb, h.ls, h.lo, h.hn⟩
  rw [block_set h.hw 8]
  rfl
theorem WS.below {w : World} {base : Nat} {f : Wf} {vt : Value} {st : St} (h : WS w base f vt st) (i : Nat) (v : Value) : Below base w (w.setCell ⟨f.wb, i, none⟩ v) := by
  obtain ⟨n1, n2, n3, b1, b2, b3⟩ := h.ne
  exact (Below.refl _ _).setCell b1 v

/-- A place is seen, and its tries are laid down. -/
theorem WS.mark {w : World} {base : Nat} {f : Wf} {vt : Value} {st : St} (h : WS w base f vt st) (i : Nat) (hi : i < f.n) (v : Value) (l : List Tr) (hl : SlK rdTry (f.ok vt) w l v) :
    WS ((w.setCell ⟨f.sb, i, none⟩ (.bool true)).setCell ⟨f.ob, i, none⟩ v).drew base f vt { st with seen := st.seen.set i true, out := st.out.set i l } ∧ Below base w ((w.setCell ⟨f.sb, i, none⟩ (.bool true)).setCell ⟨f.ob, i, none⟩ v).drew ∧ Kept f w ((w.setCell ⟨f.sb, i, none⟩ (.bool true)).setCell ⟨f.ob, i, none⟩ v).drew vt vt := by
  obtain ⟨n1, n2, n3, b1, b2, b3⟩ := h.ne
  obtain ⟨t1, t2, t3⟩ := h.tb
  obtain ⟨outv, h1, h2, h3⟩ := h.ho
  have K : ∀ k, k ≠ f.sb → k ≠ f.ob → ((w.setCell ⟨f.sb, i, none⟩ (.bool true)).setCell ⟨f.ob, i, none⟩ v).drew.heap[k]? = w.heap[k]? := fun k hk hk' => by
    show ((w.setCell ⟨f.sb, i, none⟩ (.bool true)).setCell ⟨f.ob, i, none⟩ v).heap[k]? = _
    rw [Below.heap_setCell _ _ _ _ hk', Below.heap_setCell _ _ _ _ hk]
  have hq : ∀ k, (False ∨ vt.ownBlock = some k) → k ≠ f.sb ∧ k ≠ f.ob := by
    rintro k (hk | hk)
    · exact hk.elim
    · exact ⟨by rintro rfl; exact t2 hk, by rintro rfl; exact t3 hk⟩
  refine ⟨⟨(K _ n1 n3).trans h.hw, ?_, ⟨outv.set i v, ?_, by rw [List.length_set]; exact h2, fun j u m hu hm => ?_⟩, h.own.move (fun k hk _ => K k (hq k hk).1 (hq k hk).2), h.ne, h.tb, by rw [List.length_set]; exact h.ls, by rw [List.length_set]; exact h.lo, h.hn⟩, ((Below.refl _ _).setCell b2 _).setCell b3 _ |>.drew, ⟨fun k _ ho => K k ho.2.1 ho.2.2.1, fun _ _ h => h, by show w.heap.size ≤ ((w.setCell ⟨f.sb, i, none⟩ (.bool true)).setCell ⟨f.ob, i, none⟩ v).heap.size; simp [World.setCell]⟩⟩
  · show ((w.setCell ⟨f.sb, i, none⟩ (.bool true)).setCell ⟨f.ob, i, none⟩ v).heap[f.sb]? = _
    rw [Below.heap_setCell _ _ _ _ n2, block_set h.hs i]
    simp [List.map_set]
  · show ((w.setCell ⟨f.sb, i, none⟩ (.bool true)).setCell ⟨f.ob, i, none⟩ v).heap[f.ob]? = _
    rw [block_set (cs := outv.toArray) (by rw [Below.heap_setCell _ _ _ _ (Ne.symm n2)]; exact h1) i]
    simp
  · have mv : ∀ {m : List Tr} {u : Value}, SlK rdTry (f.ok vt) w m u → SlK rdTry (f.ok vt) ((w.setCell ⟨f.sb, i, none⟩ (.bool true)).setCell ⟨f.ob, i, none⟩ v).drew m u := fun hm => (Rd.slice rdTry).move (fun k hk _ => K k hk.2.1 hk.2.2.1) hm
    simp only at hm
    by_cases hij : i = j
    · subst hij
      rw [List.getElem?_set_self (by rw [h2]; exact hi)] at hu
      rw [List.getElem?_set_self (by rw [h.lo]; exact hi)] at hm
      injection hu with hu
      injection hm with hm
      subst hu hm
      exact mv hl
    · rw [List.getElem?_set_ne hij] at hu hm
      exact mv (h3 j u m hu hm)
/-- A place comes behind those that are to be done. -/
theorem WS.push {w : World} {base : Nat} {f : Wf} {vt : Value} {st : St} (h : WS w base f vt st) (i : Nat) (hi : i < f.n) (hlen : st.todo.length ≤ 1000) (hbase : base ≤ w.heap.size) :
    ∃ v1 w1, (Builtin.append_ #[41, 41] 41 #[vt, .slice (some ⟨w.heap.size, 0, none⟩) 1 1]).run Tryd.prog (w.alloc (.cells #[.int .i64 i] 3)) = .ok v1 w1 ∧
      w1.heap[f.wb]? = some (.cells (f.cells vt st.bad) 210 (0, 0)) ∧ Below base w (w1.setCell ⟨f.wb, 7, none⟩ v1) ∧ Kept f w (w1.setCell ⟨f.wb, 7, none⟩ v1) vt v1 ∧ WS (w1.setCell ⟨f.wb, 7, none⟩ v1) base f v1 { st with todo := st.todo ++ [(i : Int)] } := by
  have hn := h.hn
  obtain ⟨n1, n2, n3, b1, b2, b3⟩ := h.ne
  obtain ⟨t1, t2, t3⟩ := h.tb
  obtain ⟨outv, h1, h2, h3⟩ := h.ho
  have lt : ∀ {k o}, w.heap[k]? = some o → k < w.heap.size := fun h => (Array.getElem?_eq_some_iff.1 h).1
  have lw := lt h.hw
  have ls := lt h.hs
  have lo := lt h1
  have hC := C_lit (w := w.alloc (.cells #[.int .i64 i] 3)) w.heap.size #[.int .i64 i] _ _ (heap_alloc_new _ _) 1 [(i : Int)] rfl (fun j x hx => by
    match j, hx with
    | 0, hx => simp at hx; subst hx; exact ⟨rfl, by simp only [Rd.IsInt]; omega⟩
    | j + 1, hx => simp at hx) (by omega)
  obtain ⟨v1, w1, hr, ho, hg, hat⟩ := (h.own.alloc (.cells #[.int .i64 i] 3)).mono (ok' := fun k => k = w.heap.size) (fun k hk => hk.elim) |>.append (t := 41) Tryd.underlying41 infoInt rfl (by decide) (by decide) (some ⟨w.heap.size, 0, none⟩) 1 1 (fun h => by cases h) hC (fun k hk => ⟨hk, fun he => by have := (h.own.lt k he.symm).2; omega⟩) (by omega) (by simp; omega) 41
  -- what the append leaves alone
  have K1 : ∀ k, k < w.heap.size → some k ≠ vt.ownBlock → w1.heap[k]? = w.heap[k]? := fun k hk hv => by
    rw [hg.block k (by simp; omega) hv, Below.heap_alloc _ _ _ hk]
  have K : ∀ k, k < w.heap.size → some k ≠ vt.ownBlock → k ≠ f.wb → (w1.setCell ⟨f.wb, 7, none⟩ v1).heap[k]? = w.heap[k]? := fun k hk hv hw => by
    rw [Below.heap_setCell _ _ _ _ hw, K1 k hk hv]
  have hw1 : w1.heap[f.wb]? = some (.cells (f.cells vt st.bad) 210 (0, 0)) := (K1 _ lw (Ne.symm t1)).trans h.hw
  have hne : ∀ k, k < w.heap.size → some k ≠ vt.ownBlock → some k ≠ v1.ownBlock := fun k hk hv => by
    rcases hat with hat | hat
    · rw [hat]; exact hv
    · rw [hat]; intro he; injection he with he; simp at he; omega
  have B0 : Below base w (w.alloc (.cells #[.int .i64 i] 3)) := (Below.refl _ _).alloc hbase _
  have B1 : Below base w w1 := B0.grown hg (by simp; omega) (fun k hk => (h.own.lt k hk).1)
  have S1 : w.heap.size ≤ w1.heap.size := by have := hg.size; simp at this; omega
  refine ⟨v1, w1, hr, hw1, B1.setCell b1 _, ⟨fun k hk ho => K k hk ho.2.2.2 ho.1, hne, by simpa [World.setCell] using S1⟩, ⟨?_, (K _ ls (Ne.symm t2) (Ne.symm n1)).trans h.hs, ⟨outv, (K _ lo (Ne.symm t3) (Ne.symm n3)).trans h1, h2, fun j u m hu hm => ?_⟩, ?_, h.ne, ⟨fun he => hne _ lw (Ne.symm t1) he.symm, fun he => hne _ ls (Ne.symm t2) he.symm, fun he => hne _ lo (Ne.symm t3) he.symm⟩, h.ls, h.lo, h.hn⟩⟩
  · rw [block_set hw1 7]
    rfl
  · have := (Rd.slice rdTry).bound (h3 j u m hu hm)
    exact (Rd.slice rdTry).mono (fun k hk => ⟨hk.1.1, hk.1.2.1, hk.1.2.2.1, hne k hk.2 hk.1.2.2.2⟩) ((Rd.slice rdTry).move (fun k hk _ => K k hk.2 hk.1.2.2.2 hk.1.1) this)
  · obtain ⟨cells, o1, o2⟩ := ho.ex
    have ho' : Own Rd.int 3 (fun _ => False) w1 base v1 (st.todo ++ [(i : Int)]) := ⟨cells, o1, fun j x hj => o2 j x hj⟩
    refine ho'.move (fun k hk hlt => ?_)
    rcases hk with hk | hk
    · exact hk.elim
    · refine Below.heap_setCell _ _ _ _ ?_
      rintro rfl
      exact hne _ lw (Ne.symm t1) hk.symm
end Go.Proofs.YtefkifdhjabdiaaDoor
namespace Go.Proofs.YtefkifdhjabdiaaDoor
set_option linter.unusedVariables false
set_option linter.unusedSimpArgs false
open Go.RowKit

set_option maxRecDepth 100000 in
set_option maxHeartbeats 8000000 in
theorem come_bad (w : World) (base : Nat) (f : Wf) (vt : Value) (st : St) (h : WS w base f vt st) (at_ : Int) (A : Option Addr) (m c : Nat) (hb : (f.n : Int) ≤ at_ ∨ 20 < m) :
    Calls Tryd.prog 149 #[.pointer (some ⟨f.wb, 0, none⟩), .int .i64 at_, .slice A m c] w fun e w' => e = .returned (.tuple #[]) ∧ Below base w w' ∧ ∃ vt', Kept f w w' vt vt' ∧ WS w' base f vt' { st with bad := true } := by
  have e4 : w.cell? ⟨f.wb, 4, none⟩ = some (.slice f.A5 f.n f.c5) := cell_at h.hw 4 rfl
  have e8 : w.cell? ⟨f.wb, 8, none⟩ = some (.bool st.bad) := cell_at h.hw 8 rfl
  have fr : w.frozen? ⟨f.wb, 8, none⟩ = false := free_at h.hw 8
  have R := Lib.hid (And.intro (h.below 8 (.bool true)) h.setBad)
  clear h
  by_cases hn : (f.n : Int) ≤ at_
  · go_enter Tryd.func149, Tryd.ntmps149
    go_wp2_with fail
    go_end0
    exact ⟨rfl, R.out.1, vt, Kept.wbset f w 8 _ vt, R.out.2⟩
  · have hm : 20 < m := by omega
    go_enter Tryd.func149, Tryd.ntmps149
    go_wp2_with fail
    go_end0
    exact ⟨rfl, R.out.1, vt, Kept.wbset f w 8 _ vt, R.out.2⟩

set_option maxRecDepth 100000 in
set_option maxHeartbeats 8000000 in
theorem come_new (w : World) (base : Nat) (hbase : base ≤ w.heap.size) (f : Wf) (vt : Value) (st : St) (h : WS w base f vt st) (at_ : Nat) (v : Value) (l : List Tr) (hl : SlK rdTry (f.ok vt) w l v) (hi : at_ < f.n) (h20 : l.length ≤ 20) (hs : st.seen[at_]? = some false) (hlen : st.todo.length ≤ 1000) :
    Calls Tryd.prog 149 #[.pointer (some ⟨f.wb, 0, none⟩), .int .i64 at_, v] w fun e w' => e = .returned (.tuple #[]) ∧ Below base w w' ∧ ∃ vt', Kept f w w' vt vt' ∧ WS w' base f vt' { st with seen := st.seen.set at_ true, out := st.out.set at_ l, todo := st.todo ++ [(at_ : Int)] } := by
  obtain ⟨M, MB, MK⟩ := h.mark at_ hi v l hl
  obtain ⟨v1, w1, hr, hw1, PB, PK, P⟩ := M.push at_ hi hlen (Nat.le_trans hbase MB.size)
  obtain ⟨A1, q0, q1, hv1⟩ : ∃ A1 q0 q1, v1 = .slice A1 q0 q1 := by
    obtain ⟨A1, q1, hv1, _⟩ := P.own.reads (by decide)
    injection hv1 with hv1
    exact ⟨_, _, _, hv1⟩
  subst hv1
  have HP := Lib.hid (And.intro (MB.trans PB) (And.intro (MK.trans PK) P))
  have e7' : (((w.setCell ⟨f.sb, at_, none⟩ (.bool true)).setCell ⟨f.ob, at_, none⟩ v).drew).cell? ⟨f.wb, 7, none⟩ = some vt := cell_at M.hw 7 rfl
  have lw : f.wb < (((w.setCell ⟨f.sb, at_, none⟩ (.bool true)).setCell ⟨f.ob, at_, none⟩ v).drew).heap.size := (Array.getElem?_eq_some_iff.1 M.hw).1
  have x7 : w1.cell? ⟨f.wb, 7, none⟩ = some vt := cell_at hw1 7 rfl
  have xf : w1.frozen? ⟨f.wb, 7, none⟩ = false := free_at hw1 7
  clear hw1 M MB PB P MK PK
  obtain ⟨W1, hW1⟩ : ∃ W1, W1 = ((w.setCell ⟨f.sb, at_, none⟩ (.bool true)).setCell ⟨f.ob, at_, none⟩ v).drew := ⟨_, rfl⟩
  rw [← hW1] at hr e7' lw
  obtain ⟨A, c, hv, l1, l2, l3, hC⟩ := hl
  injection hv with hv
  subst hv
  have e4 : w.cell? ⟨f.wb, 4, none⟩ = some (.slice f.A5 f.n f.c5) := cell_at h.hw 4 rfl
  have e5 : w.cell? ⟨f.wb, 5, none⟩ = some (.slice (some ⟨f.sb, 0, none⟩) f.n f.n) := cell_at h.hw 5 rfl
  have e6 : w.cell? ⟨f.wb, 6, none⟩ = some (.slice (some ⟨f.ob, 0, none⟩) f.n f.n) := cell_at h.hw 6 rfl
  have frs := free_at h.hs at_
  have es : w.cell? ⟨f.sb, at_, none⟩ = some (.bool false) := cell_at h.hs at_ (by simp [hs])
  obtain ⟨outv, o1, o2, o3⟩ := h.ho
  have fro := free_at o1 at_
  obtain ⟨u0, hu0⟩ : ∃ u0, outv[at_]? = some u0 := ⟨_, List.getElem?_eq_getElem (by omega)⟩
  have eo : w.cell? ⟨f.ob, at_, none⟩ = some u0 := cell_at o1 at_ (by simpa using hu0)
  have es' : ∀ u, (w.setCell ⟨f.ob, at_, none⟩ u).cell? ⟨f.sb, at_, none⟩ = some (.bool false) := fun u => by rw [World.cell?_setCell_other _ _ _ _ (by intro hq; injection hq with hq; exact h.ne.2.1 (by first | exact hq | exact hq.symm))]; exact es
  have eo' : ∀ u, (w.setCell ⟨f.sb, at_, none⟩ u).cell? ⟨f.ob, at_, none⟩ = some u0 := fun u => by rw [World.cell?_setCell_other _ _ _ _ (by intro hq; injection hq with hq; exact h.ne.2.1 (by first | exact hq | exact hq.symm))]; exact eo
  have hn := h.hn
  have hb1 : (at_ : Int) < (f.n : Int) := by omega
  clear h o1 o2 o3 hu0 hC hs l3
  go_enter Tryd.func149, Tryd.ntmps149
  go_wp2_with fail
  go_region
  rw [← hW1]
  clear hW1 es' eo' es eo frs fro e4 e5 e6
  go_wp2_with (at_builtin; refine wpList_append_eq rfl _ _ _ rfl _ _ rfl rfl hr ?_)
  go_end0
  exact ⟨rfl, HP.out.1, _, HP.out.2.1, HP.out.2.2⟩

set_option maxRecDepth 100000 in
set_option maxHeartbeats 8000000 in
theorem come_old (w : World) (base : Nat) (hbase : base ≤ w.heap.size) (f : Wf) (vt : Value) (st : St) (h : WS w base f vt st) (at_ : Nat) (v : Value) (l : List Tr) (hl : SlK rdTry (f.ok vt) w l v) (hi : at_ < f.n) (h20 : l.length ≤ 20) (hs : st.seen[at_]? = some true) :
    Calls Tryd.prog 149 #[.pointer (some ⟨f.wb, 0, none⟩), .int .i64 at_, v] w fun e w' => e = .returned (.tuple #[]) ∧ Below base w w' ∧ ∃ vt', Kept f w w' vt vt' ∧ WS w' base f vt' (if st.out[at_]? = some l then st else { st with bad := true }) := by
  obtain ⟨outv, o1, o2, o3⟩ := h.ho
  obtain ⟨m, hm⟩ : ∃ m, st.out[at_]? = some m := ⟨_, List.getElem?_eq_getElem (by rw [h.lo]; exact hi)⟩
  obtain ⟨u0, hu0⟩ : ∃ u0, outv[at_]? = some u0 := ⟨_, List.getElem?_eq_getElem (by omega)⟩
  obtain ⟨A', c', hv', _, _, _, hC'⟩ := o3 at_ u0 m hu0 hm
  injection hv' with hv'
  subst hv'
  obtain ⟨A, c, hv, l1, l2, l3, hC⟩ := hl
  injection hv with hv
  subst hv
  have E := Lib.hid (fun w2 => eqTry_any w2 A' A m.length l.length c' c m l)
  have HE : Hid (Calls Tryd.prog 164 #[.slice A' m.length c', .slice A l.length c] w fun e w' => e = .returned (.bool (decide (m = l))) ∧ Below w.heap.size w w') := Lib.hid (E.out w _ _ hC' hC)
  have e4 : w.cell? ⟨f.wb, 4, none⟩ = some (.slice f.A5 f.n f.c5) := cell_at h.hw 4 rfl
  have e5 : w.cell? ⟨f.wb, 5, none⟩ = some (.slice (some ⟨f.sb, 0, none⟩) f.n f.n) := cell_at h.hw 5 rfl
  have e6 : w.cell? ⟨f.wb, 6, none⟩ = some (.slice (some ⟨f.ob, 0, none⟩) f.n f.n) := cell_at h.hw 6 rfl
  have es : w.cell? ⟨f.sb, at_, none⟩ = some (.bool true) := cell_at h.hs at_ (by simp [hs])
  have eo : w.cell? ⟨f.ob, at_, none⟩ = some (.slice A' m.length c') := cell_at o1 at_ (by simpa using hu0)
  have hn := h.hn
  have hb1 : (at_ : Int) < (f.n : Int) := by omega
  have hlb : f.wb < w.heap.size := (Array.getElem?_eq_some_iff.1 h.hw).1
  have H := Lib.hid h
  have HM := Lib.hid hm
  clear h o1 o2 o3 hu0 hC hs l3 hC' E hm
  by_cases hml : m = l
  · have hd : decide (m = l) = true := by simpa using hml
    rw [hd] at HE
    have R := Lib.hid (show (if st.out[at_]? = some l then st else { st with bad := true }) = st by rw [HM.out, hml]; simp)
    rw [R.out]
    clear hd hml R
    go_enter Tryd.func149, Tryd.ntmps149
    go_wp2_with fail
    refine (HE.out).mono ?_
    rintro e w1 ⟨rfl, hb⟩
    have HB := Lib.hid hb
    clear hb
    go_wp2_with fail
    go_end0
    exact ⟨rfl, HB.out.mono hbase, vt, Kept.same HB.out, H.out.same (fun k hk => HB.out.block k hk)⟩
  · have hd : decide (m = l) = false := by simpa using hml
    rw [hd] at HE
    have R := Lib.hid (show (if st.out[at_]? = some l then st else { st with bad := true }) = { st with bad := true } by rw [HM.out]; simp [hml])
    rw [R.out]
    clear hd hml R
    go_enter Tryd.func149, Tryd.ntmps149
    go_wp2_with fail
    refine (HE.out).mono ?_
    rintro e w1 ⟨rfl, hb⟩
    have H1 := H.out.same (fun k hk => hb.block k hk)
    have e8 : w1.cell? ⟨f.wb, 8, none⟩ = some (.bool st.bad) := cell_at H1.hw 8 rfl
    have fr : w1.frozen? ⟨f.wb, 8, none⟩ = false := free_at H1.hw 8
    have HB := Lib.hid (And.intro ((hb.mono hbase).trans (H1.below 8 (.bool true))) (And.intro ((Kept.same (f := f) (vt := vt) hb).trans (Kept.wbset f w1 8 (.bool true) vt)) H1.setBad))
    clear hb H1
    go_wp2_with fail
    go_end0
    exact ⟨rfl, HB.out.1, vt, HB.out.2.1, HB.out.2.2⟩

/-- 'come', whole. -/
theorem come_any (w : World) (base : Nat) (hbase : base ≤ w.heap.size) (f : Wf) (vt : Value) (st : St) (h : WS w base f vt st) (at_ : Int) (h0 : 0 ≤ at_) (v : Value) (l : List Tr) (hl : SlK rdTry (f.ok vt) w l v) (hlen : st.todo.length ≤ 1000) :
    Calls Tryd.prog 149 #[.pointer (some ⟨f.wb, 0, none⟩), .int .i64 at_, v] w fun e w' => e = .returned (.tuple #[]) ∧ Below base w w' ∧ ∃ vt', Kept f w w' vt vt' ∧ WS w' base f vt' (comeF f.n st at_ l) := by
  unfold comeF
  by_cases hb : (f.n : Int) ≤ at_ ∨ 20 < l.length
  · rw [if_pos hb]
    obtain ⟨A, c, hv, _⟩ := hl
    injection hv with hv
    subst hv
    exact come_bad w base f vt st h at_ A _ c hb
  · rw [if_neg hb]
    obtain ⟨i, rfl⟩ := Int.eq_ofNat_of_zero_le h0
    have hi : i < f.n := by omega
    obtain ⟨s, hs⟩ : ∃ s, st.seen[i]? = some s := ⟨_, List.getElem?_eq_getElem (by rw [h.ls]; exact hi)⟩
    rw [Int.toNat_natCast]
    cases s with
    | false =>
      rw [if_pos hs]
      exact come_new w base hbase f vt st h i v l hl hi (by omega) hs hlen
    | true =>
      rw [if_neg (by rw [hs]; simp)]
      exact come_old w base hbase f vt st h i v l hl hi (by omega) hs
end Go.Proofs.YtefkifdhjabdiaaDoor
namespace Go.Proofs.YtefkifdhjabdiaaDoor
set_option linter.unusedVariables false
set_option linter.unusedSimpArgs false
open Go.RowKit

def fromF (n : Nat) (code : List Ord) (st : St) (at_ : Nat) : St :=
  match code[at_]?, st.out[at_]? with
  | some i, some l =>
    if i.op = 28 ∨ i.op = 29 then st
    else if i.op = 13 ∨ i.op = 14 then comeF n st i.a l
    else if i.op = 15 then comeF n (comeF n st i.b l) ((at_ : Int) + 1) l
    else if i.op = 30 then comeF n (comeF n st i.b l) ((at_ : Int) + 1) (l ++ [⟨i.a, i.b⟩])
    else if i.op = 31 then (if l = [] then { st with bad := true } else comeF n st ((at_ : Int) + 1) l.dropLast)
    else comeF n st ((at_ : Int) + 1) l
  | _, _ => st
theorem comeF_todo (n : Nat) (st : St) (at_ : Int) (l : List Tr) : (comeF n st at_ l).todo.length ≤ st.todo.length + 1 := by
  unfold comeF
  split
  · simp
  · split
    · simp
    · split <;> simp


set_option maxRecDepth 100000 in
set_option maxHeartbeats 8000000 in
theorem from_28 (w : World) (base : Nat) (hbase : base ≤ w.heap.size) (f : Wf) (vt : Value) (st : St) (h : WS w base f vt st) (hlen : st.todo.length ≤ 900) (at_ : Nat) (hi : at_ < f.n) (code : List Ord) (hcode : rdOrd.CB base w f.A5 f.n code) (i : Ord) (hci : code[at_]? = some i) (l : List Tr) (hm : st.out[at_]? = some l) (h20 : l.length ≤ 20) (hop : i.op = 28) :
    Calls Tryd.prog 150 #[.pointer (some ⟨f.wb, 0, none⟩), .int .i64 at_] w fun e w' => e = .returned (.tuple #[]) ∧ Below base w w' ∧ ∃ vt', Kept f w w' vt vt' ∧ WS w' base f vt' st := by
  obtain ⟨outv, o1, o2, o3⟩ := h.ho
  obtain ⟨u0, hu0⟩ : ∃ u0, outv[at_]? = some u0 := ⟨_, List.getElem?_eq_getElem (by omega)⟩
  have hsl := o3 at_ u0 l hu0 hm
  obtain ⟨A', c', hv', s1, s2, s3, hC'⟩ := hsl
  injection hv' with hv'
  subst hv'
  obtain ⟨ad, cs, hA5, hadb, hads, ⟨rfl, hii⟩, hc0, hcj⟩ := hcode.elem at_ i hci
  obtain ⟨op, a, b, c, line⟩ := i
  simp only [Ord.cells] at hop hc0 hcj ⊢
  have n28 : (op == 28) = true := by rw [hop]; rfl
  clear hop
  have x0 : w.cell? (ad.add (at_ * 5)) = some (.int .i64 op) := hc0 _ rfl
  have x1 : w.cell? ⟨(ad.add (at_ * 5)).block, (ad.add (at_ * 5)).off + 1, none⟩ = some (.int .i64 a) := hcj 0 _ rfl
  have x2 : w.cell? ⟨(ad.add (at_ * 5)).block, (ad.add (at_ * 5)).off + 2, none⟩ = some (.int .i64 b) := hcj 1 _ rfl
  have x3 : w.cell? ⟨(ad.add (at_ * 5)).block, (ad.add (at_ * 5)).off + 3, none⟩ = some (.int .i64 c) := hcj 2 _ rfl
  have x4 : w.cell? ⟨(ad.add (at_ * 5)).block, (ad.add (at_ * 5)).off + 4, none⟩ = some (.int .i64 line) := hcj 3 _ rfl
  have xb : (ad.add (at_ * 5)).block < w.heap.size := by rw [Rd.block_add]; exact hads
  have e4 : w.cell? ⟨f.wb, 4, none⟩ = some (.slice (some ad) f.n f.c5) := by rw [cell_at h.hw 4 rfl]; simp [hA5]
  have e6 : w.cell? ⟨f.wb, 6, none⟩ = some (.slice (some ⟨f.ob, 0, none⟩) f.n f.n) := cell_at h.hw 6 rfl
  have eo : w.cell? ⟨f.ob, at_, none⟩ = some (.slice A' l.length c') := cell_at o1 at_ (by simpa using hu0)
  have lw : f.wb < w.heap.size := (Array.getElem?_eq_some_iff.1 h.hw).1
  have lo : f.ob < w.heap.size := (Array.getElem?_eq_some_iff.1 o1).1
  have ls : f.sb < w.heap.size := (Array.getElem?_eq_some_iff.1 h.hs).1
  have hn := h.hn
  have hb1 : (at_ : Int) < (f.n : Int) := by omega
  obtain ⟨W1, hW1⟩ : ∃ W1, W1 = (w.alloc (.cells #[.int .i64 op, .int .i64 a, .int .i64 b, .int .i64 c, .int .i64 line] 189)).drew := ⟨_, rfl⟩
  have sz1 : W1.heap.size = w.heap.size + 1 := by rw [hW1]; simp
  have same : Below w.heap.size w W1 := by rw [hW1]; exact ((Below.refl _ _).alloc (Nat.le_refl _) _).drew
  have hWS := h.same (fun k hk => same.block k hk)
  have hok : f.ok vt w.heap.size := ⟨by omega, by omega, by omega, fun he => by have := (h.own.lt _ he.symm).2; omega⟩
  have hK0 : Kept f w W1 vt vt := Kept.same same
  have hL : SlK rdTry (f.ok vt) W1 l (.slice A' l.length c') := hK0.list ⟨A', c', rfl, s1, s2, s3, hC'⟩
  have y0 : W1.cell? ⟨w.heap.size, 0, none⟩ = some (.int .i64 op) := by rw [hW1]; show (w.alloc _).cell? _ = _; exact laid_cell _ _ _ _ rfl
  have y1 : W1.cell? ⟨w.heap.size, 1, none⟩ = some (.int .i64 a) := by rw [hW1]; show (w.alloc _).cell? _ = _; exact laid_cell _ _ _ _ rfl
  have y2 : W1.cell? ⟨w.heap.size, 2, none⟩ = some (.int .i64 b) := by rw [hW1]; show (w.alloc _).cell? _ = _; exact laid_cell _ _ _ _ rfl
  have HCM := Lib.hid (fun (x : Int) (hx : 0 ≤ x) => come_any W1 base (by omega) f vt st hWS x hx _ l hL (by omega))
  have H0 := Lib.hid (And.intro (same.mono hbase) (And.intro hK0 hWS))
  have HL := Lib.hid hL
  have HO := Lib.hid hok
  clear h o1 o2 o3 hu0 hC' hc0 hcj hcode same hWS hK0 hL hok hads hadb hA5 hii
  go_enter Tryd.func150, Tryd.ntmps150
  go_wp2_with fail
  go_region
  rw [← hW1]
  clear hW1 x0 x1 x2 x3 x4 xb e4 e6 eo lo ls
  go_wp2_with fail
  refine bodyPost_ret (results_none rfl _ _ _) rfl ?_
  exact ⟨rfl, H0.out.1, vt, H0.out.2.1, H0.out.2.2⟩


set_option maxRecDepth 100000 in
set_option maxHeartbeats 8000000 in
theorem from_29 (w : World) (base : Nat) (hbase : base ≤ w.heap.size) (f : Wf) (vt : Value) (st : St) (h : WS w base f vt st) (hlen : st.todo.length ≤ 900) (at_ : Nat) (hi : at_ < f.n) (code : List Ord) (hcode : rdOrd.CB base w f.A5 f.n code) (i : Ord) (hci : code[at_]? = some i) (l : List Tr) (hm : st.out[at_]? = some l) (h20 : l.length ≤ 20) (hop : i.op = 29) :
    Calls Tryd.prog 150 #[.pointer (some ⟨f.wb, 0, none⟩), .int .i64 at_] w fun e w' => e = .returned (.tuple #[]) ∧ Below base w w' ∧ ∃ vt', Kept f w w' vt vt' ∧ WS w' base f vt' st := by
  obtain ⟨outv, o1, o2, o3⟩ := h.ho
  obtain ⟨u0, hu0⟩ : ∃ u0, outv[at_]? = some u0 := ⟨_, List.getElem?_eq_getElem (by omega)⟩
  have hsl := o3 at_ u0 l hu0 hm
  obtain ⟨A', c', hv', s1, s2, s3, hC'⟩ := hsl
  injection hv' with hv'
  subst hv'
  obtain ⟨ad, cs, hA5, hadb, hads, ⟨rfl, hii⟩, hc0, hcj⟩ := hcode.elem at_ i hci
  obtain ⟨op, a, b, c, line⟩ := i
  simp only [Ord.cells] at hop hc0 hcj ⊢
  have n28 : (op == 28) = false := by rw [hop]; rfl
  have n29 : (op == 29) = true := by rw [hop]; rfl
  clear hop
  have x0 : w.cell? (ad.add (at_ * 5)) = some (.int .i64 op) := hc0 _ rfl
  have x1 : w.cell? ⟨(ad.add (at_ * 5)).block, (ad.add (at_ * 5)).off + 1, none⟩ = some (.int .i64 a) := hcj 0 _ rfl
  have x2 : w.cell? ⟨(ad.add (at_ * 5)).block, (ad.add (at_ * 5)).off + 2, none⟩ = some (.int .i64 b) := hcj 1 _ rfl
  have x3 : w.cell? ⟨(ad.add (at_ * 5)).block, (ad.add (at_ * 5)).off + 3, none⟩ = some (.int .i64 c) := hcj 2 _ rfl
  have x4 : w.cell? ⟨(ad.add (at_ * 5)).block, (ad.add (at_ * 5)).off + 4, none⟩ = some (.int .i64 line) := hcj 3 _ rfl
  have xb : (ad.add (at_ * 5)).block < w.heap.size := by rw [Rd.block_add]; exact hads
  have e4 : w.cell? ⟨f.wb, 4, none⟩ = some (.slice (some ad) f.n f.c5) := by rw [cell_at h.hw 4 rfl]; simp [hA5]
  have e6 : w.cell? ⟨f.wb, 6, none⟩ = some (.slice (some ⟨f.ob, 0, none⟩) f.n f.n) := cell_at h.hw 6 rfl
  have eo : w.cell? ⟨f.ob, at_, none⟩ = some (.slice A' l.length c') := cell_at o1 at_ (by simpa using hu0)
  have lw : f.wb < w.heap.size := (Array.getElem?_eq_some_iff.1 h.hw).1
  have lo : f.ob < w.heap.size := (Array.getElem?_eq_some_iff.1 o1).1
  have ls : f.sb < w.heap.size := (Array.getElem?_eq_some_iff.1 h.hs).1
  have hn := h.hn
  have hb1 : (at_ : Int) < (f.n : Int) := by omega
  obtain ⟨W1, hW1⟩ : ∃ W1, W1 = (w.alloc (.cells #[.int .i64 op, .int .i64 a, .int .i64 b, .int .i64 c, .int .i64 line] 189)).drew := ⟨_, rfl⟩
  have sz1 : W1.heap.size = w.heap.size + 1 := by rw [hW1]; simp
  have same : Below w.heap.size w W1 := by rw [hW1]; exact ((Below.refl _ _).alloc (Nat.le_refl _) _).drew
  have hWS := h.same (fun k hk => same.block k hk)
  have hok : f.ok vt w.heap.size := ⟨by omega, by omega, by omega, fun he => by have := (h.own.lt _ he.symm).2; omega⟩
  have hK0 : Kept f w W1 vt vt := Kept.same same
  have hL : SlK rdTry (f.ok vt) W1 l (.slice A' l.length c') := hK0.list ⟨A', c', rfl, s1, s2, s3, hC'⟩
  have y0 : W1.cell? ⟨w.heap.size, 0, none⟩ = some (.int .i64 op) := by rw [hW1]; show (w.alloc _).cell? _ = _; exact laid_cell _ _ _ _ rfl
  have y1 : W1.cell? ⟨w.heap.size, 1, none⟩ = some (.int .i64 a) := by rw [hW1]; show (w.alloc _).cell? _ = _; exact laid_cell _ _ _ _ rfl
  have y2 : W1.cell? ⟨w.heap.size, 2, none⟩ = some (.int .i64 b) := by rw [hW1]; show (w.alloc _).cell? _ = _; exact laid_cell _ _ _ _ rfl
  have HCM := Lib.hid (fun (x : Int) (hx : 0 ≤ x) => come_any W1 base (by omega) f vt st hWS x hx _ l hL (by omega))
  have H0 := Lib.hid (And.intro (same.mono hbase) (And.intro hK0 hWS))
  have HL := Lib.hid hL
  have HO := Lib.hid hok
  clear h o1 o2 o3 hu0 hC' hc0 hcj hcode same hWS hK0 hL hok hads hadb hA5 hii
  go_enter Tryd.func150, Tryd.ntmps150
  go_wp2_with fail
  go_region
  rw [← hW1]
  clear hW1 x0 x1 x2 x3 x4 xb e4 e6 eo lo ls
  go_wp2_with fail
  refine bodyPost_ret (results_none rfl _ _ _) rfl ?_
  exact ⟨rfl, H0.out.1, vt, H0.out.2.1, H0.out.2.2⟩


set_option maxRecDepth 100000 in
set_option maxHeartbeats 8000000 in
theorem from_13 (w : World) (base : Nat) (hbase : base ≤ w.heap.size) (f : Wf) (vt : Value) (st : St) (h : WS w base f vt st) (hlen : st.todo.length ≤ 900) (at_ : Nat) (hi : at_ < f.n) (code : List Ord) (hcode : rdOrd.CB base w f.A5 f.n code) (i : Ord) (hci : code[at_]? = some i) (l : List Tr) (hm : st.out[at_]? = some l) (h20 : l.length ≤ 20) (hop : i.op = 13) (hjmp : 0 ≤ i.a) :
    Calls Tryd.prog 150 #[.pointer (some ⟨f.wb, 0, none⟩), .int .i64 at_] w fun e w' => e = .returned (.tuple #[]) ∧ Below base w w' ∧ ∃ vt', Kept f w w' vt vt' ∧ WS w' base f vt' (comeF f.n st i.a l) := by
  obtain ⟨outv, o1, o2, o3⟩ := h.ho
  obtain ⟨u0, hu0⟩ : ∃ u0, outv[at_]? = some u0 := ⟨_, List.getElem?_eq_getElem (by omega)⟩
  have hsl := o3 at_ u0 l hu0 hm
  obtain ⟨A', c', hv', s1, s2, s3, hC'⟩ := hsl
  injection hv' with hv'
  subst hv'
  obtain ⟨ad, cs, hA5, hadb, hads, ⟨rfl, hii⟩, hc0, hcj⟩ := hcode.elem at_ i hci
  obtain ⟨op, a, b, c, line⟩ := i
  simp only [Ord.cells] at hop hjmp hc0 hcj ⊢
  have n28 : (op == 28) = false := by rw [hop]; rfl
  have n29 : (op == 29) = false := by rw [hop]; rfl
  have n13 : (op == 13) = true := by rw [hop]; rfl
  clear hop
  have x0 : w.cell? (ad.add (at_ * 5)) = some (.int .i64 op) := hc0 _ rfl
  have x1 : w.cell? ⟨(ad.add (at_ * 5)).block, (ad.add (at_ * 5)).off + 1, none⟩ = some (.int .i64 a) := hcj 0 _ rfl
  have x2 : w.cell? ⟨(ad.add (at_ * 5)).block, (ad.add (at_ * 5)).off + 2, none⟩ = some (.int .i64 b) := hcj 1 _ rfl
  have x3 : w.cell? ⟨(ad.add (at_ * 5)).block, (ad.add (at_ * 5)).off + 3, none⟩ = some (.int .i64 c) := hcj 2 _ rfl
  have x4 : w.cell? ⟨(ad.add (at_ * 5)).block, (ad.add (at_ * 5)).off + 4, none⟩ = some (.int .i64 line) := hcj 3 _ rfl
  have xb : (ad.add (at_ * 5)).block < w.heap.size := by rw [Rd.block_add]; exact hads
  have e4 : w.cell? ⟨f.wb, 4, none⟩ = some (.slice (some ad) f.n f.c5) := by rw [cell_at h.hw 4 rfl]; simp [hA5]
  have e6 : w.cell? ⟨f.wb, 6, none⟩ = some (.slice (some ⟨f.ob, 0, none⟩) f.n f.n) := cell_at h.hw 6 rfl
  have eo : w.cell? ⟨f.ob, at_, none⟩ = some (.slice A' l.length c') := cell_at o1 at_ (by simpa using hu0)
  have lw : f.wb < w.heap.size := (Array.getElem?_eq_some_iff.1 h.hw).1
  have lo : f.ob < w.heap.size := (Array.getElem?_eq_some_iff.1 o1).1
  have ls : f.sb < w.heap.size := (Array.getElem?_eq_some_iff.1 h.hs).1
  have hn := h.hn
  have hb1 : (at_ : Int) < (f.n : Int) := by omega
  obtain ⟨W1, hW1⟩ : ∃ W1, W1 = (w.alloc (.cells #[.int .i64 op, .int .i64 a, .int .i64 b, .int .i64 c, .int .i64 line] 189)).drew := ⟨_, rfl⟩
  have sz1 : W1.heap.size = w.heap.size + 1 := by rw [hW1]; simp
  have same : Below w.heap.size w W1 := by rw [hW1]; exact ((Below.refl _ _).alloc (Nat.le_refl _) _).drew
  have hWS := h.same (fun k hk => same.block k hk)
  have hok : f.ok vt w.heap.size := ⟨by omega, by omega, by omega, fun he => by have := (h.own.lt _ he.symm).2; omega⟩
  have hK0 : Kept f w W1 vt vt := Kept.same same
  have hL : SlK rdTry (f.ok vt) W1 l (.slice A' l.length c') := hK0.list ⟨A', c', rfl, s1, s2, s3, hC'⟩
  have y0 : W1.cell? ⟨w.heap.size, 0, none⟩ = some (.int .i64 op) := by rw [hW1]; show (w.alloc _).cell? _ = _; exact laid_cell _ _ _ _ rfl
  have y1 : W1.cell? ⟨w.heap.size, 1, none⟩ = some (.int .i64 a) := by rw [hW1]; show (w.alloc _).cell? _ = _; exact laid_cell _ _ _ _ rfl
  have y2 : W1.cell? ⟨w.heap.size, 2, none⟩ = some (.int .i64 b) := by rw [hW1]; show (w.alloc _).cell? _ = _; exact laid_cell _ _ _ _ rfl
  have HCM := Lib.hid (fun (x : Int) (hx : 0 ≤ x) => come_any W1 base (by omega) f vt st hWS x hx _ l hL (by omega))
  have H0 := Lib.hid (And.intro (same.mono hbase) (And.intro hK0 hWS))
  have HL := Lib.hid hL
  have HO := Lib.hid hok
  clear h o1 o2 o3 hu0 hC' hc0 hcj hcode same hWS hK0 hL hok hads hadb hA5 hii
  go_enter Tryd.func150, Tryd.ntmps150
  go_wp2_with fail
  go_region
  rw [← hW1]
  clear hW1 x0 x1 x2 x3 x4 xb e4 e6 eo lo ls
  go_wp2_with fail
  refine (HCM.out a hjmp).mono ?_
  rintro e w2 ⟨rfl, hb, vt2, hk, hws⟩
  have R := Lib.hid (And.intro (H0.out.1.trans hb) (And.intro (H0.out.2.1.trans hk) hws))
  clear hb hk hws
  go_wp2_with fail
  refine bodyPost_ret (results_none rfl _ _ _) rfl ?_
  exact ⟨rfl, R.out.1, vt2, R.out.2.1, R.out.2.2⟩


set_option maxRecDepth 100000 in
set_option maxHeartbeats 8000000 in
theorem from_14 (w : World) (base : Nat) (hbase : base ≤ w.heap.size) (f : Wf) (vt : Value) (st : St) (h : WS w base f vt st) (hlen : st.todo.length ≤ 900) (at_ : Nat) (hi : at_ < f.n) (code : List Ord) (hcode : rdOrd.CB base w f.A5 f.n code) (i : Ord) (hci : code[at_]? = some i) (l : List Tr) (hm : st.out[at_]? = some l) (h20 : l.length ≤ 20) (hop : i.op = 14) (hjmp : 0 ≤ i.a) :
    Calls Tryd.prog 150 #[.pointer (some ⟨f.wb, 0, none⟩), .int .i64 at_] w fun e w' => e = .returned (.tuple #[]) ∧ Below base w w' ∧ ∃ vt', Kept f w w' vt vt' ∧ WS w' base f vt' (comeF f.n st i.a l) := by
  obtain ⟨outv, o1, o2, o3⟩ := h.ho
  obtain ⟨u0, hu0⟩ : ∃ u0, outv[at_]? = some u0 := ⟨_, List.getElem?_eq_getElem (by omega)⟩
  have hsl := o3 at_ u0 l hu0 hm
  obtain ⟨A', c', hv', s1, s2, s3, hC'⟩ := hsl
  injection hv' with hv'
  subst hv'
  obtain ⟨ad, cs, hA5, hadb, hads, ⟨rfl, hii⟩, hc0, hcj⟩ := hcode.elem at_ i hci
  obtain ⟨op, a, b, c, line⟩ := i
  simp only [Ord.cells] at hop hjmp hc0 hcj ⊢
  have n28 : (op == 28) = false := by rw [hop]; rfl
  have n29 : (op == 29) = false := by rw [hop]; rfl
  have n13 : (op == 13) = false := by rw [hop]; rfl
  have n14 : (op == 14) = true := by rw [hop]; rfl
  clear hop
  have x0 : w.cell? (ad.add (at_ * 5)) = some (.int .i64 op) := hc0 _ rfl
  have x1 : w.cell? ⟨(ad.add (at_ * 5)).block, (ad.add (at_ * 5)).off + 1, none⟩ = some (.int .i64 a) := hcj 0 _ rfl
  have x2 : w.cell? ⟨(ad.add (at_ * 5)).block, (ad.add (at_ * 5)).off + 2, none⟩ = some (.int .i64 b) := hcj 1 _ rfl
  have x3 : w.cell? ⟨(ad.add (at_ * 5)).block, (ad.add (at_ * 5)).off + 3, none⟩ = some (.int .i64 c) := hcj 2 _ rfl
  have x4 : w.cell? ⟨(ad.add (at_ * 5)).block, (ad.add (at_ * 5)).off + 4, none⟩ = some (.int .i64 line) := hcj 3 _ rfl
  have xb : (ad.add (at_ * 5)).block < w.heap.size := by rw [Rd.block_add]; exact hads
  have e4 : w.cell? ⟨f.wb, 4, none⟩ = some (.slice (some ad) f.n f.c5) := by rw [cell_at h.hw 4 rfl]; simp [hA5]
  have e6 : w.cell? ⟨f.wb, 6, none⟩ = some (.slice (some ⟨f.ob, 0, none⟩) f.n f.n) := cell_at h.hw 6 rfl
  have eo : w.cell? ⟨f.ob, at_, none⟩ = some (.slice A' l.length c') := cell_at o1 at_ (by simpa using hu0)
  have lw : f.wb < w.heap.size := (Array.getElem?_eq_some_iff.1 h.hw).1
  have lo : f.ob < w.heap.size := (Array.getElem?_eq_some_iff.1 o1).1
  have ls : f.sb < w.heap.size := (Array.getElem?_eq_some_iff.1 h.hs).1
  have hn := h.hn
  have hb1 : (at_ : Int) < (f.n : Int) := by omega
  obtain ⟨W1, hW1⟩ : ∃ W1, W1 = (w.alloc (.cells #[.int .i64 op, .int .i64 a, .int .i64 b, .int .i64 c, .int .i64 line] 189)).drew := ⟨_, rfl⟩
  have sz1 : W1.heap.size = w.heap.size + 1 := by rw [hW1]; simp
  have same : Below w.heap.size w W1 := by rw [hW1]; exact ((Below.refl _ _).alloc (Nat.le_refl _) _).drew
  have hWS := h.same (fun k hk => same.block k hk)
  have hok : f.ok vt w.heap.size := ⟨by omega, by omega, by omega, fun he => by have := (h.own.lt _ he.symm).2; omega⟩
  have hK0 : Kept f w W1 vt vt := Kept.same same
  have hL : SlK rdTry (f.ok vt) W1 l (.slice A' l.length c') := hK0.list ⟨A', c', rfl, s1, s2, s3, hC'⟩
  have y0 : W1.cell? ⟨w.heap.size, 0, none⟩ = some (.int .i64 op) := by rw [hW1]; show (w.alloc _).cell? _ = _; exact laid_cell _ _ _ _ rfl
  have y1 : W1.cell? ⟨w.heap.size, 1, none⟩ = some (.int .i64 a) := by rw [hW1]; show (w.alloc _).cell? _ = _; exact laid_cell _ _ _ _ rfl
  have y2 : W1.cell? ⟨w.heap.size, 2, none⟩ = some (.int .i64 b) := by rw [hW1]; show (w.alloc _).cell? _ = _; exact laid_cell _ _ _ _ rfl
  have HCM := Lib.hid (fun (x : Int) (hx : 0 ≤ x) => come_any W1 base (by omega) f vt st hWS x hx _ l hL (by omega))
  have H0 := Lib.hid (And.intro (same.mono hbase) (And.intro hK0 hWS))
  have HL := Lib.hid hL
  have HO := Lib.hid hok
  clear h o1 o2 o3 hu0 hC' hc0 hcj hcode same hWS hK0 hL hok hads hadb hA5 hii
  go_enter Tryd.func150, Tryd.ntmps150
  go_wp2_with fail
  go_region
  rw [← hW1]
  clear hW1 x0 x1 x2 x3 x4 xb e4 e6 eo lo ls
  go_wp2_with fail
  refine (HCM.out a hjmp).mono ?_
  rintro e w2 ⟨rfl, hb, vt2, hk, hws⟩
  have R := Lib.hid (And.intro (H0.out.1.trans hb) (And.intro (H0.out.2.1.trans hk) hws))
  clear hb hk hws
  go_wp2_with fail
  refine bodyPost_ret (results_none rfl _ _ _) rfl ?_
  exact ⟨rfl, R.out.1, vt2, R.out.2.1, R.out.2.2⟩


set_option maxRecDepth 100000 in
set_option maxHeartbeats 8000000 in
theorem from_15 (w : World) (base : Nat) (hbase : base ≤ w.heap.size) (f : Wf) (vt : Value) (st : St) (h : WS w base f vt st) (hlen : st.todo.length ≤ 900) (at_ : Nat) (hi : at_ < f.n) (code : List Ord) (hcode : rdOrd.CB base w f.A5 f.n code) (i : Ord) (hci : code[at_]? = some i) (l : List Tr) (hm : st.out[at_]? = some l) (h20 : l.length ≤ 20) (hop : i.op = 15) (hjmp : 0 ≤ i.b) :
    Calls Tryd.prog 150 #[.pointer (some ⟨f.wb, 0, none⟩), .int .i64 at_] w fun e w' => e = .returned (.tuple #[]) ∧ Below base w w' ∧ ∃ vt', Kept f w w' vt vt' ∧ WS w' base f vt' (comeF f.n (comeF f.n st i.b l) ((at_ : Int) + 1) l) := by
  obtain ⟨outv, o1, o2, o3⟩ := h.ho
  obtain ⟨u0, hu0⟩ : ∃ u0, outv[at_]? = some u0 := ⟨_, List.getElem?_eq_getElem (by omega)⟩
  have hsl := o3 at_ u0 l hu0 hm
  obtain ⟨A', c', hv', s1, s2, s3, hC'⟩ := hsl
  injection hv' with hv'
  subst hv'
  obtain ⟨ad, cs, hA5, hadb, hads, ⟨rfl, hii⟩, hc0, hcj⟩ := hcode.elem at_ i hci
  obtain ⟨op, a, b, c, line⟩ := i
  simp only [Ord.cells] at hop hjmp hc0 hcj ⊢
  have n28 : (op == 28) = false := by rw [hop]; rfl
  have n29 : (op == 29) = false := by rw [hop]; rfl
  have n13 : (op == 13) = false := by rw [hop]; rfl
  have n14 : (op == 14) = false := by rw [hop]; rfl
  have n15 : (op == 15) = true := by rw [hop]; rfl
  clear hop
  have x0 : w.cell? (ad.add (at_ * 5)) = some (.int .i64 op) := hc0 _ rfl
  have x1 : w.cell? ⟨(ad.add (at_ * 5)).block, (ad.add (at_ * 5)).off + 1, none⟩ = some (.int .i64 a) := hcj 0 _ rfl
  have x2 : w.cell? ⟨(ad.add (at_ * 5)).block, (ad.add (at_ * 5)).off + 2, none⟩ = some (.int .i64 b) := hcj 1 _ rfl
  have x3 : w.cell? ⟨(ad.add (at_ * 5)).block, (ad.add (at_ * 5)).off + 3, none⟩ = some (.int .i64 c) := hcj 2 _ rfl
  have x4 : w.cell? ⟨(ad.add (at_ * 5)).block, (ad.add (at_ * 5)).off + 4, none⟩ = some (.int .i64 line) := hcj 3 _ rfl
  have xb : (ad.add (at_ * 5)).block < w.heap.size := by rw [Rd.block_add]; exact hads
  have e4 : w.cell? ⟨f.wb, 4, none⟩ = some (.slice (some ad) f.n f.c5) := by rw [cell_at h.hw 4 rfl]; simp [hA5]
  have e6 : w.cell? ⟨f.wb, 6, none⟩ = some (.slice (some ⟨f.ob, 0, none⟩) f.n f.n) := cell_at h.hw 6 rfl
  have eo : w.cell? ⟨f.ob, at_, none⟩ = some (.slice A' l.length c') := cell_at o1 at_ (by simpa using hu0)
  have lw : f.wb < w.heap.size := (Array.getElem?_eq_some_iff.1 h.hw).1
  have lo : f.ob < w.heap.size := (Array.getElem?_eq_some_iff.1 o1).1
  have ls : f.sb < w.heap.size := (Array.getElem?_eq_some_iff.1 h.hs).1
  have hn := h.hn
  have hb1 : (at_ : Int) < (f.n : Int) := by omega
  obtain ⟨W1, hW1⟩ : ∃ W1, W1 = (w.alloc (.cells #[.int .i64 op, .int .i64 a, .int .i64 b, .int .i64 c, .int .i64 line] 189)).drew := ⟨_, rfl⟩
  have sz1 : W1.heap.size = w.heap.size + 1 := by rw [hW1]; simp
  have same : Below w.heap.size w W1 := by rw [hW1]; exact ((Below.refl _ _).alloc (Nat.le_refl _) _).drew
  have hWS := h.same (fun k hk => same.block k hk)
  have hok : f.ok vt w.heap.size := ⟨by omega, by omega, by omega, fun he => by have := (h.own.lt _ he.symm).2; omega⟩
  have hK0 : Kept f w W1 vt vt := Kept.same same
  have hL : SlK rdTry (f.ok vt) W1 l (.slice A' l.length c') := hK0.list ⟨A', c', rfl, s1, s2, s3, hC'⟩
  have y0 : W1.cell? ⟨w.heap.size, 0, none⟩ = some (.int .i64 op) := by rw [hW1]; show (w.alloc _).cell? _ = _; exact laid_cell _ _ _ _ rfl
  have y1 : W1.cell? ⟨w.heap.size, 1, none⟩ = some (.int .i64 a) := by rw [hW1]; show (w.alloc _).cell? _ = _; exact laid_cell _ _ _ _ rfl
  have y2 : W1.cell? ⟨w.heap.size, 2, none⟩ = some (.int .i64 b) := by rw [hW1]; show (w.alloc _).cell? _ = _; exact laid_cell _ _ _ _ rfl
  have HCM := Lib.hid (fun (x : Int) (hx : 0 ≤ x) => come_any W1 base (by omega) f vt st hWS x hx _ l hL (by omega))
  have H0 := Lib.hid (And.intro (same.mono hbase) (And.intro hK0 hWS))
  have HL := Lib.hid hL
  have HO := Lib.hid hok
  clear h o1 o2 o3 hu0 hC' hc0 hcj hcode same hWS hK0 hL hok hads hadb hA5 hii
  go_enter Tryd.func150, Tryd.ntmps150
  go_wp2_with fail
  go_region
  rw [← hW1]
  clear hW1 x0 x1 x2 x3 x4 xb e4 e6 eo lo ls
  go_wp2_with fail
  refine (HCM.out b hjmp).mono ?_
  rintro e w2 ⟨rfl, hb, vt2, hk, hws⟩
  have hsz : w.heap.size + 1 ≤ w2.heap.size := by have := hk.size; omega
  have HC2 := Lib.hid (come_any w2 base (by omega) f vt2 _ hws ((at_ : Int) + 1) (by omega) _ l (hk.list HL.out) (by have := comeF_todo f.n st b l; omega))
  have R := Lib.hid (And.intro (H0.out.1.trans hb) (H0.out.2.1.trans hk))
  clear hb hk hws
  go_wp2_with fail
  refine (HC2.out).mono ?_
  rintro e w3 ⟨rfl, hb, vt3, hk, hws⟩
  have R2 := Lib.hid (And.intro (R.out.1.trans hb) (And.intro (R.out.2.trans hk) hws))
  clear hb hk hws
  go_wp2_with fail
  go_end0
  exact ⟨rfl, R2.out.1, vt3, R2.out.2.1, R2.out.2.2⟩


set_option maxRecDepth 100000 in
set_option maxHeartbeats 8000000 in
theorem from_else (w : World) (base : Nat) (hbase : base ≤ w.heap.size) (f : Wf) (vt : Value) (st : St) (h : WS w base f vt st) (hlen : st.todo.length ≤ 900) (at_ : Nat) (hi : at_ < f.n) (code : List Ord) (hcode : rdOrd.CB base w f.A5 f.n code) (i : Ord) (hci : code[at_]? = some i) (l : List Tr) (hm : st.out[at_]? = some l) (h20 : l.length ≤ 20) (hop : (i.op == 28) = false ∧ (i.op == 29) = false ∧ (i.op == 13) = false ∧ (i.op == 14) = false ∧ (i.op == 15) = false ∧ (i.op == 30) = false ∧ (i.op == 31) = false) :
    Calls Tryd.prog 150 #[.pointer (some ⟨f.wb, 0, none⟩), .int .i64 at_] w fun e w' => e = .returned (.tuple #[]) ∧ Below base w w' ∧ ∃ vt', Kept f w w' vt vt' ∧ WS w' base f vt' (comeF f.n st ((at_ : Int) + 1) l) := by
  obtain ⟨outv, o1, o2, o3⟩ := h.ho
  obtain ⟨u0, hu0⟩ : ∃ u0, outv[at_]? = some u0 := ⟨_, List.getElem?_eq_getElem (by omega)⟩
  have hsl := o3 at_ u0 l hu0 hm
  obtain ⟨A', c', hv', s1, s2, s3, hC'⟩ := hsl
  injection hv' with hv'
  subst hv'
  obtain ⟨ad, cs, hA5, hadb, hads, ⟨rfl, hii⟩, hc0, hcj⟩ := hcode.elem at_ i hci
  obtain ⟨op, a, b, c, line⟩ := i
  simp only [Ord.cells] at hop hc0 hcj ⊢
  obtain ⟨n28, n29, n13, n14, n15, n30, n31⟩ := hop
  have x0 : w.cell? (ad.add (at_ * 5)) = some (.int .i64 op) := hc0 _ rfl
  have x1 : w.cell? ⟨(ad.add (at_ * 5)).block, (ad.add (at_ * 5)).off + 1, none⟩ = some (.int .i64 a) := hcj 0 _ rfl
  have x2 : w.cell? ⟨(ad.add (at_ * 5)).block, (ad.add (at_ * 5)).off + 2, none⟩ = some (.int .i64 b) := hcj 1 _ rfl
  have x3 : w.cell? ⟨(ad.add (at_ * 5)).block, (ad.add (at_ * 5)).off + 3, none⟩ = some (.int .i64 c) := hcj 2 _ rfl
  have x4 : w.cell? ⟨(ad.add (at_ * 5)).block, (ad.add (at_ * 5)).off + 4, none⟩ = some (.int .i64 line) := hcj 3 _ rfl
  have xb : (ad.add (at_ * 5)).block < w.heap.size := by rw [Rd.block_add]; exact hads
  have e4 : w.cell? ⟨f.wb, 4, none⟩ = some (.slice (some ad) f.n f.c5) := by rw [cell_at h.hw 4 rfl]; simp [hA5]
  have e6 : w.cell? ⟨f.wb, 6, none⟩ = some (.slice (some ⟨f.ob, 0, none⟩) f.n f.n) := cell_at h.hw 6 rfl
  have eo : w.cell? ⟨f.ob, at_, none⟩ = some (.slice A' l.length c') := cell_at o1 at_ (by simpa using hu0)
  have lw : f.wb < w.heap.size := (Array.getElem?_eq_some_iff.1 h.hw).1
  have lo : f.ob < w.heap.size := (Array.getElem?_eq_some_iff.1 o1).1
  have ls : f.sb < w.heap.size := (Array.getElem?_eq_some_iff.1 h.hs).1
  have hn := h.hn
  have hb1 : (at_ : Int) < (f.n : Int) := by omega
  obtain ⟨W1, hW1⟩ : ∃ W1, W1 = (w.alloc (.cells #[.int .i64 op, .int .i64 a, .int .i64 b, .int .i64 c, .int .i64 line] 189)).drew := ⟨_, rfl⟩
  have sz1 : W1.heap.size = w.heap.size + 1 := by rw [hW1]; simp
  have same : Below w.heap.size w W1 := by rw [hW1]; exact ((Below.refl _ _).alloc (Nat.le_refl _) _).drew
  have hWS := h.same (fun k hk => same.block k hk)
  have hok : f.ok vt w.heap.size := ⟨by omega, by omega, by omega, fun he => by have := (h.own.lt _ he.symm).2; omega⟩
  have hK0 : Kept f w W1 vt vt := Kept.same same
  have hL : SlK rdTry (f.ok vt) W1 l (.slice A' l.length c') := hK0.list ⟨A', c', rfl, s1, s2, s3, hC'⟩
  have y0 : W1.cell? ⟨w.heap.size, 0, none⟩ = some (.int .i64 op) := by rw [hW1]; show (w.alloc _).cell? _ = _; exact laid_cell _ _ _ _ rfl
  have y1 : W1.cell? ⟨w.heap.size, 1, none⟩ = some (.int .i64 a) := by rw [hW1]; show (w.alloc _).cell? _ = _; exact laid_cell _ _ _ _ rfl
  have y2 : W1.cell? ⟨w.heap.size, 2, none⟩ = some (.int .i64 b) := by rw [hW1]; show (w.alloc _).cell? _ = _; exact laid_cell _ _ _ _ rfl
  have HCM := Lib.hid (fun (x : Int) (hx : 0 ≤ x) => come_any W1 base (by omega) f vt st hWS x hx _ l hL (by omega))
  have H0 := Lib.hid (And.intro (same.mono hbase) (And.intro hK0 hWS))
  have HL := Lib.hid hL
  have HO := Lib.hid hok
  clear h o1 o2 o3 hu0 hC' hc0 hcj hcode same hWS hK0 hL hok hads hadb hA5 hii
  go_enter Tryd.func150, Tryd.ntmps150
  go_wp2_with fail
  go_region
  rw [← hW1]
  clear hW1 x0 x1 x2 x3 x4 xb e4 e6 eo lo ls
  go_wp2_with fail
  refine (HCM.out ((at_ : Int) + 1) (by omega)).mono ?_
  rintro e w2 ⟨rfl, hb, vt2, hk, hws⟩
  have R := Lib.hid (And.intro (H0.out.1.trans hb) (And.intro (H0.out.2.1.trans hk) hws))
  clear hb hk hws
  go_wp2_with fail
  go_end0
  exact ⟨rfl, R.out.1, vt2, R.out.2.1, R.out.2.2⟩


set_option maxRecDepth 100000 in
set_option maxHeartbeats 8000000 in
theorem from_31a (w : World) (base : Nat) (hbase : base ≤ w.heap.size) (f : Wf) (vt : Value) (st : St) (h : WS w base f vt st) (hlen : st.todo.length ≤ 900) (at_ : Nat) (hi : at_ < f.n) (code : List Ord) (hcode : rdOrd.CB base w f.A5 f.n code) (i : Ord) (hci : code[at_]? = some i) (l : List Tr) (hm : st.out[at_]? = some l) (h20 : l.length ≤ 20) (hop : i.op = 31) (hl0 : l = []) :
    Calls Tryd.prog 150 #[.pointer (some ⟨f.wb, 0, none⟩), .int .i64 at_] w fun e w' => e = .returned (.tuple #[]) ∧ Below base w w' ∧ ∃ vt', Kept f w w' vt vt' ∧ WS w' base f vt' { st with bad := true } := by
  obtain ⟨outv, o1, o2, o3⟩ := h.ho
  obtain ⟨u0, hu0⟩ : ∃ u0, outv[at_]? = some u0 := ⟨_, List.getElem?_eq_getElem (by omega)⟩
  have hsl := o3 at_ u0 l hu0 hm
  obtain ⟨A', c', hv', s1, s2, s3, hC'⟩ := hsl
  injection hv' with hv'
  subst hv'
  obtain ⟨ad, cs, hA5, hadb, hads, ⟨rfl, hii⟩, hc0, hcj⟩ := hcode.elem at_ i hci
  obtain ⟨op, a, b, c, line⟩ := i
  simp only [Ord.cells] at hop hl0 hc0 hcj ⊢
  have n28 : (op == 28) = false := by rw [hop]; rfl
  have n29 : (op == 29) = false := by rw [hop]; rfl
  have n13 : (op == 13) = false := by rw [hop]; rfl
  have n14 : (op == 14) = false := by rw [hop]; rfl
  have n15 : (op == 15) = false := by rw [hop]; rfl
  have n30 : (op == 30) = false := by rw [hop]; rfl
  have n31 : (op == 31) = true := by rw [hop]; rfl
  clear hop
  have hl1 : ((l.length : Int) == 0) = true := by rw [hl0]; rfl
  have x0 : w.cell? (ad.add (at_ * 5)) = some (.int .i64 op) := hc0 _ rfl
  have x1 : w.cell? ⟨(ad.add (at_ * 5)).block, (ad.add (at_ * 5)).off + 1, none⟩ = some (.int .i64 a) := hcj 0 _ rfl
  have x2 : w.cell? ⟨(ad.add (at_ * 5)).block, (ad.add (at_ * 5)).off + 2, none⟩ = some (.int .i64 b) := hcj 1 _ rfl
  have x3 : w.cell? ⟨(ad.add (at_ * 5)).block, (ad.add (at_ * 5)).off + 3, none⟩ = some (.int .i64 c) := hcj 2 _ rfl
  have x4 : w.cell? ⟨(ad.add (at_ * 5)).block, (ad.add (at_ * 5)).off + 4, none⟩ = some (.int .i64 line) := hcj 3 _ rfl
  have xb : (ad.add (at_ * 5)).block < w.heap.size := by rw [Rd.block_add]; exact hads
  have e4 : w.cell? ⟨f.wb, 4, none⟩ = some (.slice (some ad) f.n f.c5) := by rw [cell_at h.hw 4 rfl]; simp [hA5]
  have e6 : w.cell? ⟨f.wb, 6, none⟩ = some (.slice (some ⟨f.ob, 0, none⟩) f.n f.n) := cell_at h.hw 6 rfl
  have eo : w.cell? ⟨f.ob, at_, none⟩ = some (.slice A' l.length c') := cell_at o1 at_ (by simpa using hu0)
  have lw : f.wb < w.heap.size := (Array.getElem?_eq_some_iff.1 h.hw).1
  have lo : f.ob < w.heap.size := (Array.getElem?_eq_some_iff.1 o1).1
  have ls : f.sb < w.heap.size := (Array.getElem?_eq_some_iff.1 h.hs).1
  have hn := h.hn
  have hb1 : (at_ : Int) < (f.n : Int) := by omega
  obtain ⟨W1, hW1⟩ : ∃ W1, W1 = (w.alloc (.cells #[.int .i64 op, .int .i64 a, .int .i64 b, .int .i64 c, .int .i64 line] 189)).drew := ⟨_, rfl⟩
  have sz1 : W1.heap.size = w.heap.size + 1 := by rw [hW1]; simp
  have same : Below w.heap.size w W1 := by rw [hW1]; exact ((Below.refl _ _).alloc (Nat.le_refl _) _).drew
  have hWS := h.same (fun k hk => same.block k hk)
  have hok : f.ok vt w.heap.size := ⟨by omega, by omega, by omega, fun he => by have := (h.own.lt _ he.symm).2; omega⟩
  have hK0 : Kept f w W1 vt vt := Kept.same same
  have hL : SlK rdTry (f.ok vt) W1 l (.slice A' l.length c') := hK0.list ⟨A', c', rfl, s1, s2, s3, hC'⟩
  have y0 : W1.cell? ⟨w.heap.size, 0, none⟩ = some (.int .i64 op) := by rw [hW1]; show (w.alloc _).cell? _ = _; exact laid_cell _ _ _ _ rfl
  have y1 : W1.cell? ⟨w.heap.size, 1, none⟩ = some (.int .i64 a) := by rw [hW1]; show (w.alloc _).cell? _ = _; exact laid_cell _ _ _ _ rfl
  have y2 : W1.cell? ⟨w.heap.size, 2, none⟩ = some (.int .i64 b) := by rw [hW1]; show (w.alloc _).cell? _ = _; exact laid_cell _ _ _ _ rfl
  have HCM := Lib.hid (fun (x : Int) (hx : 0 ≤ x) => come_any W1 base (by omega) f vt st hWS x hx _ l hL (by omega))
  have H0 := Lib.hid (And.intro (same.mono hbase) (And.intro hK0 hWS))
  have HL := Lib.hid hL
  have HO := Lib.hid hok
  clear h o1 o2 o3 hu0 hC' hc0 hcj hcode same hWS hK0 hL hok hads hadb hA5 hii
  go_enter Tryd.func150, Tryd.ntmps150
  go_wp2_with fail
  go_region
  rw [← hW1]
  clear hW1 x0 x1 x2 x3 x4 xb e4 e6 eo lo ls
  have e8 : W1.cell? ⟨f.wb, 8, none⟩ = some (.bool st.bad) := cell_at H0.out.2.2.hw 8 rfl
  have fr : W1.frozen? ⟨f.wb, 8, none⟩ = false := free_at H0.out.2.2.hw 8
  go_wp2_with fail
  refine bodyPost_ret (results_none rfl _ _ _) rfl ?_
  exact ⟨rfl, H0.out.1.trans (H0.out.2.2.below 8 _), vt, H0.out.2.1.trans (Kept.wbset f W1 8 _ vt), H0.out.2.2.setBad⟩


set_option maxRecDepth 100000 in
set_option maxHeartbeats 8000000 in
theorem from_31b (w : World) (base : Nat) (hbase : base ≤ w.heap.size) (f : Wf) (vt : Value) (st : St) (h : WS w base f vt st) (hlen : st.todo.length ≤ 900) (at_ : Nat) (hi : at_ < f.n) (code : List Ord) (hcode : rdOrd.CB base w f.A5 f.n code) (i : Ord) (hci : code[at_]? = some i) (l : List Tr) (hm : st.out[at_]? = some l) (h20 : l.length ≤ 20) (hop : i.op = 31) (hl0 : l ≠ []) :
    Calls Tryd.prog 150 #[.pointer (some ⟨f.wb, 0, none⟩), .int .i64 at_] w fun e w' => e = .returned (.tuple #[]) ∧ Below base w w' ∧ ∃ vt', Kept f w w' vt vt' ∧ WS w' base f vt' (comeF f.n st ((at_ : Int) + 1) l.dropLast) := by
  obtain ⟨outv, o1, o2, o3⟩ := h.ho
  obtain ⟨u0, hu0⟩ : ∃ u0, outv[at_]? = some u0 := ⟨_, List.getElem?_eq_getElem (by omega)⟩
  have hsl := o3 at_ u0 l hu0 hm
  obtain ⟨A', c', hv', s1, s2, s3, hC'⟩ := hsl
  injection hv' with hv'
  subst hv'
  obtain ⟨ad, cs, hA5, hadb, hads, ⟨rfl, hii⟩, hc0, hcj⟩ := hcode.elem at_ i hci
  obtain ⟨op, a, b, c, line⟩ := i
  simp only [Ord.cells] at hop hl0 hc0 hcj ⊢
  have n28 : (op == 28) = false := by rw [hop]; rfl
  have n29 : (op == 29) = false := by rw [hop]; rfl
  have n13 : (op == 13) = false := by rw [hop]; rfl
  have n14 : (op == 14) = false := by rw [hop]; rfl
  have n15 : (op == 15) = false := by rw [hop]; rfl
  have n30 : (op == 30) = false := by rw [hop]; rfl
  have n31 : (op == 31) = true := by rw [hop]; rfl
  clear hop
  have hlp : 0 < l.length := List.length_pos_iff.2 hl0
  have hl1 : ((l.length : Int) == 0) = false := by simp; exact hl0
  have hl2 : (l.length : Int) ≤ 20 := by omega
  have x0 : w.cell? (ad.add (at_ * 5)) = some (.int .i64 op) := hc0 _ rfl
  have x1 : w.cell? ⟨(ad.add (at_ * 5)).block, (ad.add (at_ * 5)).off + 1, none⟩ = some (.int .i64 a) := hcj 0 _ rfl
  have x2 : w.cell? ⟨(ad.add (at_ * 5)).block, (ad.add (at_ * 5)).off + 2, none⟩ = some (.int .i64 b) := hcj 1 _ rfl
  have x3 : w.cell? ⟨(ad.add (at_ * 5)).block, (ad.add (at_ * 5)).off + 3, none⟩ = some (.int .i64 c) := hcj 2 _ rfl
  have x4 : w.cell? ⟨(ad.add (at_ * 5)).block, (ad.add (at_ * 5)).off + 4, none⟩ = some (.int .i64 line) := hcj 3 _ rfl
  have xb : (ad.add (at_ * 5)).block < w.heap.size := by rw [Rd.block_add]; exact hads
  have e4 : w.cell? ⟨f.wb, 4, none⟩ = some (.slice (some ad) f.n f.c5) := by rw [cell_at h.hw 4 rfl]; simp [hA5]
  have e6 : w.cell? ⟨f.wb, 6, none⟩ = some (.slice (some ⟨f.ob, 0, none⟩) f.n f.n) := cell_at h.hw 6 rfl
  have eo : w.cell? ⟨f.ob, at_, none⟩ = some (.slice A' l.length c') := cell_at o1 at_ (by simpa using hu0)
  have lw : f.wb < w.heap.size := (Array.getElem?_eq_some_iff.1 h.hw).1
  have lo : f.ob < w.heap.size := (Array.getElem?_eq_some_iff.1 o1).1
  have ls : f.sb < w.heap.size := (Array.getElem?_eq_some_iff.1 h.hs).1
  have hn := h.hn
  have hb1 : (at_ : Int) < (f.n : Int) := by omega
  obtain ⟨W1, hW1⟩ : ∃ W1, W1 = (w.alloc (.cells #[.int .i64 op, .int .i64 a, .int .i64 b, .int .i64 c, .int .i64 line] 189)).drew := ⟨_, rfl⟩
  have sz1 : W1.heap.size = w.heap.size + 1 := by rw [hW1]; simp
  have same : Below w.heap.size w W1 := by rw [hW1]; exact ((Below.refl _ _).alloc (Nat.le_refl _) _).drew
  have hWS := h.same (fun k hk => same.block k hk)
  have hok : f.ok vt w.heap.size := ⟨by omega, by omega, by omega, fun he => by have := (h.own.lt _ he.symm).2; omega⟩
  have hK0 : Kept f w W1 vt vt := Kept.same same
  have hL : SlK rdTry (f.ok vt) W1 l (.slice A' l.length c') := hK0.list ⟨A', c', rfl, s1, s2, s3, hC'⟩
  have y0 : W1.cell? ⟨w.heap.size, 0, none⟩ = some (.int .i64 op) := by rw [hW1]; show (w.alloc _).cell? _ = _; exact laid_cell _ _ _ _ rfl
  have y1 : W1.cell? ⟨w.heap.size, 1, none⟩ = some (.int .i64 a) := by rw [hW1]; show (w.alloc _).cell? _ = _; exact laid_cell _ _ _ _ rfl
  have y2 : W1.cell? ⟨w.heap.size, 2, none⟩ = some (.int .i64 b) := by rw [hW1]; show (w.alloc _).cell? _ = _; exact laid_cell _ _ _ _ rfl
  have HCM := Lib.hid (fun (x : Int) (hx : 0 ≤ x) => come_any W1 base (by omega) f vt st hWS x hx _ l hL (by omega))
  have H0 := Lib.hid (And.intro (same.mono hbase) (And.intro hK0 hWS))
  have HL := Lib.hid hL
  have HO := Lib.hid hok
  clear h o1 o2 o3 hu0 hC' hc0 hcj hcode same hWS hK0 hL hok hads hadb hA5 hii
  go_enter Tryd.func150, Tryd.ntmps150
  go_wp2_with fail
  go_region
  rw [← hW1]
  clear hW1 x0 x1 x2 x3 x4 xb e4 e6 eo lo ls
  have HC3 : Hid (Calls Tryd.prog 149 #[.pointer (some ⟨f.wb, 0, none⟩), .int .i64 ((at_ : Int) + 1), .slice A' (l.length - 1) c'] W1 fun e w' => e = .returned (.tuple #[]) ∧ Below base W1 w' ∧ ∃ vt', Kept f W1 w' vt vt' ∧ WS w' base f vt' (comeF f.n st ((at_ : Int) + 1) l.dropLast)) := Lib.hid (come_any W1 base (by omega) f vt st H0.out.2.2 _ (by omega) _ l.dropLast (by
    obtain ⟨A1, c1, hq, g1, g2, g3, gC⟩ := HL.out
    injection hq with hq
    injection hq with q1 q2 q3
    subst q1 q3
    have hdl : l.dropLast.length = l.length - 1 := List.length_dropLast
    refine ⟨_, _, by rw [hdl], by rw [hdl]; omega, g2, g3, ?_⟩
    have := gC.take (l.length - 1) (by omega)
    rw [hdl, List.dropLast_eq_take]
    exact this) (by omega))
  go_wp2_with fail
  refine (HC3.out).mono ?_
  rintro e w2 ⟨rfl, hb, vt2, hk, hws⟩
  have R := Lib.hid (And.intro (H0.out.1.trans hb) (And.intro (H0.out.2.1.trans hk) hws))
  clear hb hk hws
  go_wp2_with fail
  go_end0
  exact ⟨rfl, R.out.1, vt2, R.out.2.1, R.out.2.2⟩

end Go.Proofs.YtefkifdhjabdiaaDoor
namespace Go.Proofs.YtefkifdhjabdiaaDoor
set_option linter.unusedVariables false
set_option linter.unusedSimpArgs false
open Go.RowKit

/-- At the operation in a region: an append whose run is known. -/
theorem wp_append_eq {P : Program} {o : Oper} {a : Act} {K : Act → World → Prop} {Q : Exit → Act → World → Prop} {w w1 : World} {v1 : Value} (s x : Operand) (t : TypeId)
    (ho : o.op = .call { callee := .builtin .append, args := #[s, x], argTypes := #[t, t] }) (v y : Value) (hs : a.eval s = v) (hx : a.eval x = y) (hr : (Builtin.append_ #[t, t] o.type #[v, y]).run P w = .ok v1 w1)
    (h : K (a.put o.dst v1) w1) : o.wp P a w K Q := by
  unfold Oper.wp execOp
  simp only [ho, resolve, invoke, builtin, Sem.run_bind, Sem.run_pure, Result.andThen_ok, List.map_toArray, List.map_cons, List.map_nil, hs, hx, hr]
  exact h
theorem C_litTry {w : World} (b : Nat) (t : TypeId) (fr : Nat × Nat) (x : Tr) (hx : Rd.IsInt x.reg ∧ Rd.IsInt x.at_) (hb : w.heap[b]? = some (.cells #[.int .i64 x.reg, .int .i64 x.at_] t fr)) : rdTry.C (· = b) w (some ⟨b, 0, none⟩) 1 [x] :=
  ⟨rfl, by omega, fun _ => ⟨_, rfl, rfl, (Array.getElem?_eq_some_iff.1 hb).1, fun i y hi => by
    match i, hi with
    | 0, hi =>
      simp at hi
      subst hi
      refine ⟨_, ⟨rfl, hx⟩, fun j u hj => ?_⟩
      have e : (⟨b, 0, none⟩ : Addr).add (0 * rdTry.sz + j) = ⟨b, j, none⟩ := by
        unfold Addr.add; split
        · rename_i h; simp at h; simp [h]
        · simp
      rw [e, World.cell?, hb]
      simpa [Tr.cells] using hj
    | n + 1, hi => simp at hi⟩⟩
/-- What the clone and the element come to. -/
theorem try_append (w : World) (base B : Nat) (v : Value) (l : List Tr) (x : Tr) (hx : Rd.IsInt x.reg ∧ Rd.IsInt x.at_) (blk : Nat) (hblk : w.heap[blk]? = some (.cells #[.int .i64 x.reg, .int .i64 x.at_] 226 (0, 0))) (ho : Own rdTry 226 (fun _ => False) w B v l) (hne : v.ownBlock ≠ some blk) (hB : B ≤ w.heap.size) (hl : l.length ≤ 1000) :
    ∃ v1 w1, (Builtin.append_ #[223, 223] 223 #[v, .slice (some ⟨blk, 0, none⟩) 1 1]).run Tryd.prog w = .ok v1 w1 ∧ Own rdTry 226 (fun _ => False) w1 B v1 (l ++ [x]) ∧ Below B w w1 := by
  obtain ⟨v1, w1, hr, ho1, hg, hat⟩ := (ho.mono (ok' := fun k => k = blk) (fun k hk => hk.elim)).append (t := 223) Tryd.underlying223 infoTry rfl (by decide) (by decide) (some ⟨blk, 0, none⟩) 1 1 (fun h => by cases h) (C_litTry blk _ _ x hx hblk) (fun k hk => ⟨hk, fun he => hne (by rw [← he, hk])⟩) (by omega) hB 223
  exact ⟨v1, w1, hr, ho1.any, (Below.refl _ _).grown hg hB (fun k hk => (ho.lt k hk).1)⟩

set_option maxRecDepth 100000 in
set_option maxHeartbeats 8000000 in
theorem from_30 (w : World) (base : Nat) (hbase : base ≤ w.heap.size) (f : Wf) (vt : Value) (st : St) (h : WS w base f vt st) (hlen : st.todo.length ≤ 900) (at_ : Nat) (hi : at_ < f.n) (code : List Ord) (hcode : rdOrd.CB base w f.A5 f.n code) (i : Ord) (hci : code[at_]? = some i) (l : List Tr) (hm : st.out[at_]? = some l) (h20 : l.length ≤ 20) (hop : i.op = 30) (hjmp : 0 ≤ i.b) :
    Calls Tryd.prog 150 #[.pointer (some ⟨f.wb, 0, none⟩), .int .i64 at_] w fun e w' => e = .returned (.tuple #[]) ∧ Below base w w' ∧ ∃ vt', Kept f w w' vt vt' ∧ WS w' base f vt' (comeF f.n (comeF f.n st i.b l) ((at_ : Int) + 1) (l ++ [⟨i.a, i.b⟩])) := by
  obtain ⟨outv, o1, o2, o3⟩ := h.ho
  obtain ⟨u0, hu0⟩ : ∃ u0, outv[at_]? = some u0 := ⟨_, List.getElem?_eq_getElem (by omega)⟩
  have hsl := o3 at_ u0 l hu0 hm
  obtain ⟨A', c', hv', s1, s2, s3, hC'⟩ := hsl
  injection hv' with hv'
  subst hv'
  obtain ⟨ad, cs, hA5, hadb, hads, ⟨rfl, hii⟩, hc0, hcj⟩ := hcode.elem at_ i hci
  obtain ⟨op, a, b, c, line⟩ := i
  simp only [Ord.cells] at hop hjmp hc0 hcj ⊢
  have n28 : (op == 28) = false := by rw [hop]; rfl
  have n29 : (op == 29) = false := by rw [hop]; rfl
  have n13 : (op == 13) = false := by rw [hop]; rfl
  have n14 : (op == 14) = false := by rw [hop]; rfl
  have n15 : (op == 15) = false := by rw [hop]; rfl
  have n30 : (op == 30) = true := by rw [hop]; rfl
  clear hop
  have x0 : w.cell? (ad.add (at_ * 5)) = some (.int .i64 op) := hc0 _ rfl
  have x1 : w.cell? ⟨(ad.add (at_ * 5)).block, (ad.add (at_ * 5)).off + 1, none⟩ = some (.int .i64 a) := hcj 0 _ rfl
  have x2 : w.cell? ⟨(ad.add (at_ * 5)).block, (ad.add (at_ * 5)).off + 2, none⟩ = some (.int .i64 b) := hcj 1 _ rfl
  have x3 : w.cell? ⟨(ad.add (at_ * 5)).block, (ad.add (at_ * 5)).off + 3, none⟩ = some (.int .i64 c) := hcj 2 _ rfl
  have x4 : w.cell? ⟨(ad.add (at_ * 5)).block, (ad.add (at_ * 5)).off + 4, none⟩ = some (.int .i64 line) := hcj 3 _ rfl
  have xb : (ad.add (at_ * 5)).block < w.heap.size := by rw [Rd.block_add]; exact hads
  have e4 : w.cell? ⟨f.wb, 4, none⟩ = some (.slice (some ad) f.n f.c5) := by rw [cell_at h.hw 4 rfl]; simp [hA5]
  have e6 : w.cell? ⟨f.wb, 6, none⟩ = some (.slice (some ⟨f.ob, 0, none⟩) f.n f.n) := cell_at h.hw 6 rfl
  have eo : w.cell? ⟨f.ob, at_, none⟩ = some (.slice A' l.length c') := cell_at o1 at_ (by simpa using hu0)
  have lw : f.wb < w.heap.size := (Array.getElem?_eq_some_iff.1 h.hw).1
  have lo : f.ob < w.heap.size := (Array.getElem?_eq_some_iff.1 o1).1
  have ls : f.sb < w.heap.size := (Array.getElem?_eq_some_iff.1 h.hs).1
  have hn := h.hn
  have hb1 : (at_ : Int) < (f.n : Int) := by omega
  obtain ⟨W1, hW1⟩ : ∃ W1, W1 = (w.alloc (.cells #[.int .i64 op, .int .i64 a, .int .i64 b, .int .i64 c, .int .i64 line] 189)).drew := ⟨_, rfl⟩
  have sz1 : W1.heap.size = w.heap.size + 1 := by rw [hW1]; simp
  have same : Below w.heap.size w W1 := by rw [hW1]; exact ((Below.refl _ _).alloc (Nat.le_refl _) _).drew
  have hWS := h.same (fun k hk => same.block k hk)
  have hok : f.ok vt w.heap.size := ⟨by omega, by omega, by omega, fun he => by have := (h.own.lt _ he.symm).2; omega⟩
  have hK0 : Kept f w W1 vt vt := Kept.same same
  have hL : SlK rdTry (f.ok vt) W1 l (.slice A' l.length c') := hK0.list ⟨A', c', rfl, s1, s2, s3, hC'⟩
  have y0 : W1.cell? ⟨w.heap.size, 0, none⟩ = some (.int .i64 op) := by rw [hW1]; show (w.alloc _).cell? _ = _; exact laid_cell _ _ _ _ rfl
  have y1 : W1.cell? ⟨w.heap.size, 1, none⟩ = some (.int .i64 a) := by rw [hW1]; show (w.alloc _).cell? _ = _; exact laid_cell _ _ _ _ rfl
  have y2 : W1.cell? ⟨w.heap.size, 2, none⟩ = some (.int .i64 b) := by rw [hW1]; show (w.alloc _).cell? _ = _; exact laid_cell _ _ _ _ rfl
  have HCM := Lib.hid (fun (x : Int) (hx : 0 ≤ x) => come_any W1 base (by omega) f vt st hWS x hx _ l hL (by omega))
  have H0 := Lib.hid (And.intro (same.mono hbase) (And.intro hK0 hWS))
  have HL := Lib.hid hL
  have HO := Lib.hid hok
  have hab : Rd.IsInt a ∧ Rd.IsInt b := ⟨hii.2.1, hii.2.2.1⟩
  clear h o1 o2 o3 hu0 hC' hc0 hcj hcode same hWS hK0 hL hok hads hadb hA5 hii
  go_enter Tryd.func150, Tryd.ntmps150
  go_wp2_with fail
  go_region
  rw [← hW1]
  clear hW1 x0 x1 x2 x3 x4 xb e4 e6 eo lo ls
  go_wp2_with fail
  refine (HCM.out b hjmp).mono ?_
  rintro e w2 ⟨rfl, hb, vt2, hk, hws⟩
  have hsz : w.heap.size + 1 ≤ w2.heap.size := by have := hk.size; omega
  have hbase2 : base ≤ w2.heap.size := by omega
  have hbk := hk.block w.heap.size (by omega) HO.out
  have q1 : w2.cell? ⟨w.heap.size, 1, none⟩ = some (.int .i64 a) := by rw [World.cell?_of_block (w := W1) (by exact hbk)]; exact y1
  have q2 : w2.cell? ⟨w.heap.size, 2, none⟩ = some (.int .i64 b) := by rw [World.cell?_of_block (w := W1) (by exact hbk)]; exact y2
  clear hbk
  have hL2 := hk.list HL.out
  have lw2 : f.wb < w2.heap.size := (Array.getElem?_eq_some_iff.1 hws.hw).1
  have ls2 : f.sb < w2.heap.size := (Array.getElem?_eq_some_iff.1 hws.hs).1
  have lo2 : f.ob < w2.heap.size := by obtain ⟨outw, ow1, _⟩ := hws.ho; exact (Array.getElem?_eq_some_iff.1 ow1).1
  have HWS := Lib.hid (fun (w' : World) (h' : Below w2.heap.size w2 w') => hws.same (fun k hk => h'.block k hk))
  have HLL0 := Lib.hid (fun (w' : World) (h' : Below w2.heap.size w2 w') => (Rd.slice rdTry).move (fun k hk _ => h'.block k hk.2) ((Rd.slice rdTry).bound hL2))
  have HLI : Hid (∀ (w' : World) (v : Value), Own rdTry 226 (fun _ => False) w' w2.heap.size v (l ++ [⟨a, b⟩]) → SlK rdTry (f.ok vt2) w' (l ++ [⟨a, b⟩]) v) := Lib.hid (fun w' v h' => (Rd.slice rdTry).mono (fun k hk => by
    rcases hk with hk | hk
    · exact hk.elim
    · have := (h'.lt k hk).1
      exact ⟨by omega, by omega, by omega, fun he => by have := (hws.own.lt k he.symm).2; omega⟩) (h'.reads (by decide)))
  have HS : Hid (∀ w' : World, Below w2.heap.size w2 w' → w'.cell? ⟨w.heap.size, 1, none⟩ = some (.int .i64 a) ∧ w'.cell? ⟨w.heap.size, 2, none⟩ = some (.int .i64 b) ∧ Below w2.heap.size w2 w') := Lib.hid (fun w' h' => ⟨(h'.cell (p := ⟨w.heap.size, 1, none⟩) (by simp; omega)).trans q1, (h'.cell (p := ⟨w.heap.size, 2, none⟩) (by simp; omega)).trans q2, h'⟩)
  have HS2 : Hid (∀ w' : World, w'.cell? ⟨w.heap.size, 1, none⟩ = some (.int .i64 a) ∧ w'.cell? ⟨w.heap.size, 2, none⟩ = some (.int .i64 b) ∧ Below w2.heap.size w2 w' → Below w2.heap.size w2 w') := Lib.hid (fun w' h' => h'.2.2)
  have HLL : Hid (∀ w' : World, w'.cell? ⟨w.heap.size, 1, none⟩ = some (.int .i64 a) ∧ w'.cell? ⟨w.heap.size, 2, none⟩ = some (.int .i64 b) ∧ Below w2.heap.size w2 w' → SlK rdTry (fun k => f.ok vt2 k ∧ k < w2.heap.size) w' l (.slice A' l.length c')) := Lib.hid (fun w' h' => HLL0.out w' h'.2.2)
  have R := Lib.hid (And.intro (H0.out.1.trans hb) (H0.out.2.1.trans hk))
  have hblt : w.heap.size < w2.heap.size := by omega
  clear hb hk hws hL2 lw2 ls2 lo2 HLL0
  go_wp2_with fail
  refine wp_region_held_drew (S := fun w' => w'.cell? ⟨w.heap.size, 1, none⟩ = some (.int .i64 a) ∧ w'.cell? ⟨w.heap.size, 2, none⟩ = some (.int .i64 b) ∧ Below w2.heap.size w2 w') (by kernel_rfl) (HS.out _ (Below.refl _ _).drew) (fun hHeld => ?_)
  try dsimp only
  generalize w2.drew = w4 at hHeld ⊢
  refine wpAnyH_take (i := 0) (oi := ?oiz1) (v := ?vvz1) ?hiz1 (by kernel_rfl) (by kernel_rfl) (by kernel_rfl) ?hQz1 (Or.inl ⟨?hwz1, ?hyz1⟩) (by assumption) ?hhz1
  case hiz1 => simp only [List.getElem?_toArray, List.getElem?_cons_succ, List.getElem?_cons_zero]; rfl
  case hwz1 => rfl
  case hyz1 => (intro w hSw; (try dsimp only at hSw); go_simp; (try with_reducible rfl))
  case hQz1 => exact fun _ _ _ h => h
  try simp only [Act.put, List.setIfInBounds_toArray, List.set_cons_zero, List.set_cons_succ]
  refine wpAnyH_take (i := 2) (oi := ?oiz2) (v := ?vvz2) ?hiz2 (by kernel_rfl) (by kernel_rfl) (by kernel_rfl) ?hQz2 (Or.inl ⟨?hwz2, ?hyz2⟩) (by assumption) ?hhz2
  case hiz2 => simp only [List.getElem?_toArray, List.getElem?_cons_succ, List.getElem?_cons_zero]; rfl
  case hwz2 => rfl
  case hyz2 => (intro w hSw; (try dsimp only at hSw); go_simp; (try with_reducible rfl))
  case hQz2 => exact fun _ _ _ h => h
  try simp only [Act.put, List.setIfInBounds_toArray, List.set_cons_zero, List.set_cons_succ]
  refine wpAnyH_take (i := 3) (oi := ?oiz3) (v := ?vvz3) ?hiz3 (by kernel_rfl) (by kernel_rfl) (by kernel_rfl) ?hQz3 (Or.inl ⟨?hwz3, ?hyz3⟩) (by assumption) ?hhz3
  case hiz3 => simp only [List.getElem?_toArray, List.getElem?_cons_succ, List.getElem?_cons_zero]; rfl
  case hwz3 => rfl
  case hyz3 => (intro w hSw; (try dsimp only at hSw); go_simp; (try with_reducible rfl))
  case hQz3 => exact fun _ _ _ h => h
  try simp only [Act.put, List.setIfInBounds_toArray, List.set_cons_zero, List.set_cons_succ]
  refine wpAnyH_take (i := 4) (oi := ?oiz4) (v := ?vvz4) ?hiz4 (by kernel_rfl) (by kernel_rfl) (by kernel_rfl) ?hQz4 (Or.inl ⟨?hwz4, ?hyz4⟩) (by assumption) ?hhz4
  case hiz4 => simp only [List.getElem?_toArray, List.getElem?_cons_succ, List.getElem?_cons_zero]; rfl
  case hwz4 => rfl
  case hyz4 => (intro w hSw; (try dsimp only at hSw); go_simp; (try with_reducible rfl))
  case hQz4 => exact fun _ _ _ h => h
  try simp only [Act.put, List.setIfInBounds_toArray, List.set_cons_zero, List.set_cons_succ]
  refine wpAnyH_take (i := 5) (oi := ?oiz5) (v := ?vvz5) ?hiz5 (by kernel_rfl) (by kernel_rfl) (by kernel_rfl) ?hQz5 (Or.inl ⟨?hwz5, ?hyz5⟩) (by assumption) ?hhz5
  case hiz5 => simp only [List.getElem?_toArray, List.getElem?_cons_succ, List.getElem?_cons_zero]; rfl
  case hwz5 => rfl
  case hyz5 => (intro w hSw; (try dsimp only at hSw); go_simp; (try with_reducible rfl))
  case hQz5 => exact fun _ _ _ h => h
  try simp only [Act.put, List.setIfInBounds_toArray, List.set_cons_zero, List.set_cons_succ]
  refine wpAnyH_take (i := 6) (oi := ?oiz6) (v := ?vvz6) ?hiz6 (by kernel_rfl) (by kernel_rfl) (by kernel_rfl) ?hQz6 (Or.inl ⟨?hwz6, ?hyz6⟩) (by assumption) ?hhz6
  case hiz6 => simp only [List.getElem?_toArray, List.getElem?_cons_succ, List.getElem?_cons_zero]; rfl
  case hwz6 => rfl
  case hyz6 => (intro w hSw; (try dsimp only at hSw); go_simp; (try with_reducible rfl))
  case hQz6 => exact fun _ _ _ h => h
  try simp only [Act.put, List.setIfInBounds_toArray, List.set_cons_zero, List.set_cons_succ]
  refine wpAnyH_ready (rs := [1, 7]) (by kernel_rfl) (by simp) ?_
  refine AllReadyH.cons (o := ?oiz7) ?hiz7 (fun K hK => ?hhz7) ?rest1
  case hiz7 => simp only [List.getElem?_toArray, List.getElem?_cons_succ, List.getElem?_cons_zero]; rfl
  · skip
    go_simp
    go_at_call 165
    refine (cloneTry_any _ w4 _ l (HLL.out w4 (by assumption)) (by omega)).mono ?_
    rintro e w5 ⟨v1, rfl, hbC, hownC⟩
    go_wp2_with fail
    refine hK.out _ _ ?_ (fun hHeld1 => ?_)
    · exact HS.out w5 ((HS2.out w4 (by assumption)).trans (hbC.mono (HS2.out w4 (by assumption)).size))
    clear hK K
    try simp only [Act.put, List.setIfInBounds_toArray, List.set_cons_zero, List.set_cons_succ]
    refine wpAnyH_ready (rs := [7]) (by kernel_rfl) (by simp) ?_
    refine AllReadyH.cons (o := ?oiz8) ?hiz8 (fun K hK => ?hhz8) AllReadyH.nil
    case hiz8 => simp only [List.getElem?_toArray, List.getElem?_cons_succ, List.getElem?_cons_zero]; rfl
    go_simp
    obtain ⟨w6, hWw6⟩ : ∃ w6, w6 = w5.alloc (.cells #[.int .i64 a, .int .i64 b] 226) := ⟨_, rfl⟩
    rw [← hWw6]
    have HWw6 := Lib.hid hWw6
    clear hWw6
    refine hK.out _ _ ?_ (fun hHeld2 => ?_)
    · exact HS.out w6 (by rw [HWw6.out]; exact (HS2.out w5 (by assumption)).alloc (HS2.out w5 (by assumption)).size _)
    clear hK K
    try simp only [Act.put, List.setIfInBounds_toArray, List.set_cons_zero, List.set_cons_succ]
    have hB5 := HS2.out w5 hHeld1
    obtain ⟨v9, w9, hrA, hoA, hbA'⟩ := try_append w6 base w2.heap.size v1 l ⟨a, b⟩ hab w5.heap.size (by rw [HWw6.out]; exact heap_alloc_new _ _) (((hownC.lower (HS2.out w4 hHeld).size).alloc (.cells #[.int .i64 a, .int .i64 b] 226)) |> fun h => by rw [HWw6.out]; exact h) (fun he => by have := (hownC.lt _ he).2; omega) (HS2.out w6 hHeld2).size (by omega)
    have hbA : Below w2.heap.size w2 w9 := (HS2.out w6 hHeld2).trans hbA'
    clear hbA' hB5 hbC hownC
    refine wpAnyH_ready (rs := [8]) (by kernel_rfl) (by simp) ?_
    refine AllReadyH.cons (o := ?oiz9) ?hiz9 (fun K hK => ?hhz9) AllReadyH.nil
    case hiz9 => simp only [List.getElem?_toArray, List.getElem?_cons_succ, List.getElem?_cons_zero]; rfl
    rw [if_pos (by rfl)]
    refine wp_append_eq _ _ _ rfl _ _ rfl rfl hrA ?_
    refine hK.out _ _ ?_ (fun hHeld9 => ?_)
    · exact HS.out _ hbA
    clear hK K
    try simp only [Act.put, List.setIfInBounds_toArray, List.set_cons_zero, List.set_cons_succ]
    refine wpAnyH_take (i := 9) (oi := ?oiz10) (v := ?vvz10) ?hiz10 (by kernel_rfl) (by kernel_rfl) (by kernel_rfl) ?hQz10 (Or.inl ⟨?hwz10, ?hyz10⟩) (by assumption) ?hhz10
    case hiz10 => simp only [List.getElem?_toArray, List.getElem?_cons_succ, List.getElem?_cons_zero]; rfl
    case hwz10 => rfl
    case hyz10 => (intro w hSw; (try dsimp only at hSw); go_simp; (try with_reducible rfl))
    case hQz10 => exact fun _ _ _ h => h
    try simp only [Act.put, List.setIfInBounds_toArray, List.set_cons_zero, List.set_cons_succ]
    refine wpAnyH_done (by kernel_rfl) ?_ _
    have HC3 := Lib.hid (come_any w9 base (by have := hbA.size; omega) f vt2 _ (HWS.out w9 hbA) ((at_ : Int) + 1) (by omega) v9 (l ++ [⟨a, b⟩]) (HLI.out w9 v9 hoA) (by have := comeF_todo f.n st b l; omega))
    have R3 := Lib.hid (And.intro (R.out.1.trans (hbA.mono hbase2)) (R.out.2.trans (Kept.same hbA)))
    clear hrA hoA hbA hHeld9 hHeld
    go_wp2_with fail
    refine (HC3.out).mono ?_
    rintro e w3 ⟨rfl, hb, vt3, hk, hws⟩
    have R2 := Lib.hid (And.intro (R3.out.1.trans hb) (And.intro (R3.out.2.trans hk) hws))
    clear hb hk hws
    go_wp2_with fail
    go_end0
    exact ⟨rfl, R2.out.1, vt3, R2.out.2.1, R2.out.2.2⟩
  case rest1 =>
    refine AllReadyH.cons (o := ?oiz11) ?hiz11 (fun K hK => ?hhz11) AllReadyH.nil
    case hiz11 => simp only [List.getElem?_toArray, List.getElem?_cons_succ, List.getElem?_cons_zero]; rfl
    go_simp
    obtain ⟨w5, hWw5⟩ : ∃ w5, w5 = w4.alloc (.cells #[.int .i64 a, .int .i64 b] 226) := ⟨_, rfl⟩
    rw [← hWw5]
    have HWw5 := Lib.hid hWw5
    clear hWw5
    refine hK.out _ _ ?_ (fun hHeld1 => ?_)
    · exact HS.out w5 (by rw [HWw5.out]; exact (HS2.out w4 (by assumption)).alloc (HS2.out w4 (by assumption)).size _)
    clear hK K
    try simp only [Act.put, List.setIfInBounds_toArray, List.set_cons_zero, List.set_cons_succ]
    refine wpAnyH_ready (rs := [1]) (by kernel_rfl) (by simp) ?_
    refine AllReadyH.cons (o := ?oiz12) ?hiz12 (fun K hK => ?hhz12) AllReadyH.nil
    case hiz12 => simp only [List.getElem?_toArray, List.getElem?_cons_succ, List.getElem?_cons_zero]; rfl
    go_simp
    go_at_call 165
    refine (cloneTry_any _ w5 _ l (HLL.out w5 (by assumption)) (by omega)).mono ?_
    rintro e w6 ⟨v1, rfl, hbC, hownC⟩
    go_wp2_with fail
    refine hK.out _ _ ?_ (fun hHeld2 => ?_)
    · exact HS.out w6 ((HS2.out w5 (by assumption)).trans (hbC.mono (HS2.out w5 (by assumption)).size))
    clear hK K
    try simp only [Act.put, List.setIfInBounds_toArray, List.set_cons_zero, List.set_cons_succ]
    have hB5 := HS2.out w5 hHeld1
    obtain ⟨v9, w9, hrA, hoA, hbA'⟩ := try_append w6 base w2.heap.size v1 l ⟨a, b⟩ hab w4.heap.size (by rw [hbC.block _ (by rw [HWw5.out]; simp), HWw5.out]; exact heap_alloc_new _ _) (hownC.lower hB5.size) (fun he => by have := (hownC.lt _ he).1; rw [HWw5.out] at this; simp at this; omega) (HS2.out w6 hHeld2).size (by omega)
    have hbA : Below w2.heap.size w2 w9 := (HS2.out w6 hHeld2).trans hbA'
    clear hbA' hB5 hbC hownC
    refine wpAnyH_ready (rs := [8]) (by kernel_rfl) (by simp) ?_
    refine AllReadyH.cons (o := ?oiz13) ?hiz13 (fun K hK => ?hhz13) AllReadyH.nil
    case hiz13 => simp only [List.getElem?_toArray, List.getElem?_cons_succ, List.getElem?_cons_zero]; rfl
    rw [if_pos (by rfl)]
    refine wp_append_eq _ _ _ rfl _ _ rfl rfl hrA ?_
    refine hK.out _ _ ?_ (fun hHeld9 => ?_)
    · exact HS.out _ hbA
    clear hK K
    try simp only [Act.put, List.setIfInBounds_toArray, List.set_cons_zero, List.set_cons_succ]
    refine wpAnyH_take (i := 9) (oi := ?oiz14) (v := ?vvz14) ?hiz14 (by kernel_rfl) (by kernel_rfl) (by kernel_rfl) ?hQz14 (Or.inl ⟨?hwz14, ?hyz14⟩) (by assumption) ?hhz14
    case hiz14 => simp only [List.getElem?_toArray, List.getElem?_cons_succ, List.getElem?_cons_zero]; rfl
    case hwz14 => rfl
    case hyz14 => (intro w hSw; (try dsimp only at hSw); go_simp; (try with_reducible rfl))
    case hQz14 => exact fun _ _ _ h => h
    try simp only [Act.put, List.setIfInBounds_toArray, List.set_cons_zero, List.set_cons_succ]
    refine wpAnyH_done (by kernel_rfl) ?_ _
    have HC3 := Lib.hid (come_any w9 base (by have := hbA.size; omega) f vt2 _ (HWS.out w9 hbA) ((at_ : Int) + 1) (by omega) v9 (l ++ [⟨a, b⟩]) (HLI.out w9 v9 hoA) (by have := comeF_todo f.n st b l; omega))
    have R3 := Lib.hid (And.intro (R.out.1.trans (hbA.mono hbase2)) (R.out.2.trans (Kept.same hbA)))
    clear hrA hoA hbA hHeld9 hHeld
    go_wp2_with fail
    refine (HC3.out).mono ?_
    rintro e w3 ⟨rfl, hb, vt3, hk, hws⟩
    have R2 := Lib.hid (And.intro (R3.out.1.trans hb) (And.intro (R3.out.2.trans hk) hws))
    clear hb hk hws
    go_wp2_with fail
    go_end0
    exact ⟨rfl, R2.out.1, vt3, R2.out.2.1, R2.out.2.2⟩
end Go.Proofs.YtefkifdhjabdiaaDoor
namespace Go.Proofs.YtefkifdhjabdiaaDoor
set_option linter.unusedVariables false
set_option linter.unusedSimpArgs false
open Go.RowKit

/-- The ways out of an order lead nowhere below 0. -/
def jumpsOk (code : List Ord) : Prop := ∀ i ∈ code, ((i.op = 13 ∨ i.op = 14) → 0 ≤ i.a) ∧ ((i.op = 15 ∨ i.op = 30) → 0 ≤ i.b)

theorem from_any (w : World) (base : Nat) (hbase : base ≤ w.heap.size) (f : Wf) (vt : Value) (st : St) (h : WS w base f vt st) (hlen : st.todo.length ≤ 900) (at_ : Nat) (hi : at_ < f.n) (code : List Ord) (hcode : rdOrd.CB base w f.A5 f.n code) (hj : jumpsOk code) (h20 : ∀ l ∈ st.out, l.length ≤ 20) :
    Calls Tryd.prog 150 #[.pointer (some ⟨f.wb, 0, none⟩), .int .i64 at_] w fun e w' => e = .returned (.tuple #[]) ∧ Below base w w' ∧ ∃ vt', Kept f w w' vt vt' ∧ WS w' base f vt' (fromF f.n code st at_) := by
  obtain ⟨i, hci⟩ : ∃ i, code[at_]? = some i := ⟨_, List.getElem?_eq_getElem (by have := hcode.1; omega)⟩
  obtain ⟨l, hm⟩ : ∃ l, st.out[at_]? = some l := ⟨_, List.getElem?_eq_getElem (by have := h.lo; omega)⟩
  have hl := h20 l (List.mem_of_getElem? hm)
  obtain ⟨j1, j2⟩ := hj i (List.mem_of_getElem? hci)
  unfold fromF
  rw [hci, hm]
  simp only
  by_cases o1 : i.op = 28
  · rw [if_pos (.inl o1)]; exact from_28 w base hbase f vt st h hlen at_ hi code hcode i hci l hm hl o1
  by_cases o2 : i.op = 29
  · rw [if_pos (.inr o2)]; exact from_29 w base hbase f vt st h hlen at_ hi code hcode i hci l hm hl o2
  rw [if_neg (by omega)]
  by_cases o3 : i.op = 13
  · rw [if_pos (.inl o3)]; exact from_13 w base hbase f vt st h hlen at_ hi code hcode i hci l hm hl o3 (j1 (.inl o3))
  by_cases o4 : i.op = 14
  · rw [if_pos (.inr o4)]; exact from_14 w base hbase f vt st h hlen at_ hi code hcode i hci l hm hl o4 (j1 (.inr o4))
  rw [if_neg (by omega)]
  by_cases o5 : i.op = 15
  · rw [if_pos o5]; exact from_15 w base hbase f vt st h hlen at_ hi code hcode i hci l hm hl o5 (j2 (.inl o5))
  rw [if_neg o5]
  by_cases o6 : i.op = 30
  · rw [if_pos o6]; exact from_30 w base hbase f vt st h hlen at_ hi code hcode i hci l hm hl o6 (j2 (.inr o6))
  rw [if_neg o6]
  by_cases o7 : i.op = 31
  · rw [if_pos o7]
    by_cases hl0 : l = []
    · rw [if_pos hl0]; exact from_31a w base hbase f vt st h hlen at_ hi code hcode i hci l hm hl o7 hl0
    · rw [if_neg hl0]; exact from_31b w base hbase f vt st h hlen at_ hi code hcode i hci l hm hl o7 hl0
  rw [if_neg o7]
  exact from_else w base hbase f vt st h hlen at_ hi code hcode i hci l hm hl ⟨by simpa using o1, by simpa using o2, by simpa using o3, by simpa using o4, by simpa using o5, by simpa using o6, by simpa using o7⟩

/-! ### the plain state -/
structure St.Ok (n : Nat) (st : St) : Prop where
  ls : st.seen.length = n
  lo : st.out.length = n
  ct : st.todo.length + st.seen.count false ≤ n
  td : ∀ x ∈ st.todo, 0 ≤ x ∧ x < n
  l20 : ∀ l ∈ st.out, l.length ≤ 20
/-- What still may be done. -/
def St.left (st : St) : Nat := st.todo.length + 2 * st.seen.count false
theorem count_set_true {l : List Bool} {i : Nat} (h : l[i]? = some false) : (l.set i true).count false + 1 = l.count false := by
  induction l generalizing i with
  | nil => simp at h
  | cons b t ih =>
    cases i with
    | zero => simp at h; subst h; simp
    | succ i =>
      simp only [List.getElem?_cons_succ] at h
      have := ih h
      cases b <;> simp <;> omega
theorem comeF_ok {n : Nat} {st : St} (h : st.Ok n) (at_ : Int) (h0 : 0 ≤ at_) (l : List Tr) : (comeF n st at_ l).Ok n ∧ (comeF n st at_ l).left ≤ st.left := by
  unfold comeF
  split
  · exact ⟨⟨h.ls, h.lo, h.ct, h.td, h.l20⟩, Nat.le_refl _⟩
  · rename_i hb
    split
    · rename_i hs
      have hc := count_set_true hs
      refine ⟨⟨by simpa using h.ls, by simpa using h.lo, ?_, ?_, ?_⟩, ?_⟩
      · have := h.ct
        simp only [List.length_append, List.length_singleton]
        omega
      · intro x hx
        simp only [List.mem_append, List.mem_singleton] at hx
        rcases hx with hx | hx
        · exact h.td x hx
        · subst hx; exact ⟨h0, by omega⟩
      · intro m hm
        rcases List.mem_or_eq_of_mem_set hm with hm | hm
        · exact h.l20 m hm
        · subst hm; omega
      · simp only [St.left, List.length_append, List.length_singleton]
        omega
    · split
      · exact ⟨h, Nat.le_refl _⟩
      · exact ⟨⟨h.ls, h.lo, h.ct, h.td, h.l20⟩, Nat.le_refl _⟩
theorem fromF_ok {n : Nat} {code : List Ord} {st : St} (h : st.Ok n) (hj : jumpsOk code) (at_ : Nat) : (fromF n code st at_).Ok n ∧ (fromF n code st at_).left ≤ st.left := by
  unfold fromF
  split
  · rename_i i l hci hm
    obtain ⟨j1, j2⟩ := hj i (List.mem_of_getElem? hci)
    have two : ∀ x y : Int, 0 ≤ x → 0 ≤ y → ∀ l l', (comeF n (comeF n st x l) y l').Ok n ∧ (comeF n (comeF n st x l) y l').left ≤ st.left := fun x y hx hy l l' =>
      ⟨(comeF_ok (comeF_ok h x hx l).1 y hy l').1, Nat.le_trans (comeF_ok (comeF_ok h x hx l).1 y hy l').2 (comeF_ok h x hx l).2⟩
    split
    · exact ⟨h, Nat.le_refl _⟩
    · split
      · rename_i ho; exact comeF_ok h _ (j1 ho) _
      · split
        · rename_i ho; exact two _ _ (j2 (.inl ho)) (by omega) _ _
        · split
          · rename_i ho; exact two _ _ (j2 (.inr ho)) (by omega) _ _
          · split
            · split
              · exact ⟨⟨h.ls, h.lo, h.ct, h.td, h.l20⟩, Nat.le_refl _⟩
              · exact comeF_ok h _ (by omega) _
            · exact comeF_ok h _ (by omega) _
  · exact ⟨h, Nat.le_refl _⟩

/-- One turn: the last place that is to be done is done. -/
def turnF (n : Nat) (code : List Ord) (st : St) : St := fromF n code { st with todo := st.todo.dropLast } ((st.todo.getLast?.getD 0).toNat)
def runF (n : Nat) (code : List Ord) : Nat → St → St
  | 0, st => st
  | k + 1, st => if st.todo = [] ∨ st.bad = true then st else runF n code k (turnF n code st)
theorem runF_done {n : Nat} {code : List Ord} {st : St} (h : st.todo = [] ∨ st.bad = true) (k : Nat) : runF n code k st = st := by
  cases k with
  | zero => rfl
  | succ k => simp only [runF, if_pos h]
theorem turnF_ok {n : Nat} {code : List Ord} {st : St} (h : st.Ok n) (hj : jumpsOk code) (hn : st.todo ≠ []) : (turnF n code st).Ok n ∧ (turnF n code st).left < st.left := by
  have h1 : ({ st with todo := st.todo.dropLast } : St).Ok n := ⟨h.ls, h.lo, by have := h.ct; simp only [List.length_dropLast]; omega, fun x hx => h.td x ((List.dropLast_sublist st.todo).subset hx), h.l20⟩
  have h2 := fromF_ok h1 hj (st.todo.getLast?.getD 0).toNat
  refine ⟨h2.1, Nat.lt_of_le_of_lt h2.2 ?_⟩
  have : 0 < st.todo.length := List.length_pos_iff.2 hn
  simp only [St.left, List.length_dropLast]
  omega
def init (n : Nat) : St := ⟨List.replicate n false, List.replicate n [], [], false⟩
/-- All tries of a function, whether each order is come to, and whether it is right. -/
def triesF (code : List Ord) : St := runF code.length code (2 * code.length + 2) (comeF code.length (init code.length) 0 [])
end Go.Proofs.YtefkifdhjabdiaaDoor
namespace Go.Proofs.YtefkifdhjabdiaaDoor
set_option linter.unusedVariables false
set_option linter.unusedSimpArgs false
open Go.RowKit

theorem Own.pop {e : TypeId} {w : World} {base : Nat} {A : Option Addr} {c : Nat} {xs : List Int} (h : Own Rd.int e (fun _ => False) w base (.slice A xs.length c) xs) (hx : xs ≠ []) : Own Rd.int e (fun _ => False) w base (.slice A (xs.length - 1) c) xs.dropLast := by
  obtain ⟨cells, ⟨h0, h1⟩, h2⟩ := h.ex
  have hp : 0 < xs.length := List.length_pos_iff.2 hx
  have hsz : Rd.int.sz = 1 := rfl
  rw [hsz, Nat.mul_one] at h0
  rcases h1 with ⟨h1, h1'⟩ | ⟨g, cap, cur, hv, hb, hh, hc, hm, hs, ht⟩
  · omega
  · injection hv with v1 v2 v3
    subst v1 v3
    refine ⟨cells.take (xs.length - 1), ⟨?_, .inr ⟨g, c, cur, by rw [List.length_dropLast], hb, hh, by rw [List.length_dropLast]; omega, hm, hs, ?_⟩⟩, fun i x hi => ?_⟩
    · rw [List.length_take, h0, List.length_dropLast, hsz]; omega
    · rw [List.length_dropLast, hsz, Nat.mul_one, ← ht, hsz, Nat.mul_one, List.take_take]
      congr 1
      omega
    · have hi' : i < xs.length - 1 := by have := (List.getElem?_eq_some_iff.1 hi).1; rwa [List.length_dropLast] at this
      rw [List.getElem?_dropLast, if_pos hi'] at hi
      have := h2 i x hi
      obtain ⟨e1, e2⟩ := this
      refine ⟨?_, e2⟩
      rw [← e1]
      simp only [hsz, Nat.mul_one, List.take_one, List.head?_drop]
      rw [List.getElem?_take, if_pos hi']
theorem WS.pop {w : World} {base : Nat} {f : Wf} {A : Option Addr} {c : Nat} {st : St} (h : WS w base f (.slice A st.todo.length c) st) (hx : st.todo ≠ []) :
    WS (w.setCell ⟨f.wb, 7, none⟩ (.slice A (st.todo.length - 1) c)) base f (.slice A (st.todo.length - 1) c) { st with todo := st.todo.dropLast } := by
  obtain ⟨n1, n2, n3, b1, b2, b3⟩ := h.ne
  obtain ⟨t1, t2, t3⟩ := h.tb
  have hob : (Value.slice A (st.todo.length - 1) c).ownBlock = (Value.slice A st.todo.length c).ownBlock := by cases A <;> rfl
  have K : ∀ k, k ≠ f.wb → (w.setCell ⟨f.wb, 7, none⟩ (.slice A (st.todo.length - 1) c)).heap[k]? = w.heap[k]? := fun k hk => Below.heap_setCell _ _ _ _ hk
  obtain ⟨outv, h1, h2, h3⟩ := h.ho
  have hq : ∀ k, (False ∨ (Value.slice A (st.todo.length - 1) c).ownBlock = some k) → k ≠ f.wb := by
    rw [hob]
    rintro k (hk | hk) rfl
    · exact hk
    · exact t1 hk
  refine ⟨?_, (K _ (Ne.symm n1)).trans h.hs, ⟨outv, (K _ (Ne.symm n3)).trans h1, h2, fun i v l hv hl => (Rd.slice rdTry).mono (fun k hk => ⟨hk.1, hk.2.1, hk.2.2.1, by rw [hob]; exact hk.2.2.2⟩) ((Rd.slice rdTry).move (fun k hk _ => K k hk.1) (h3 i v l hv hl))⟩, (h.own.pop hx).move (fun k hk _ => K k (hq k hk)), h.ne, by rw [hob]; exact h.tb, h.ls, h.lo, h.hn⟩
  rw [block_set h.hw 7]
  rfl
end Go.Proofs.YtefkifdhjabdiaaDoor
namespace Go.Proofs.YtefkifdhjabdiaaDoor
set_option linter.unusedVariables false
set_option linter.unusedSimpArgs false
open Go.RowKit

theorem madeCells_one (z : Value) (n : Nat) (hz : z.cells = #[z]) : madeCells z.cells (n * 1) = Array.replicate n z := by
  apply Array.toList_inj.1
  rw [hz, toList_madeCells_one, Nat.mul_one, Array.toList_replicate]
theorem make_seen (n : Nat) (hn : n ≤ 600) (w : World) : (Instr.makeSlice 108 (.int .i64 (n : Int)) (.int .i64 (n : Int))).run Tryd.prog w = .ok (.slice (some ⟨w.heap.size, 0, none⟩) n n) (w.alloc (.cells (Array.replicate n (Value.bool false)) 4)) := by
  obtain ⟨i, hi, hz, hs, hb⟩ : ∃ i, Tryd.prog.info? 4 = some i ∧ i.zero = some (.bool false) ∧ i.size = 1 ∧ i.bytes = 1 := by
    have h : (Tryd.prog.info? 4).map (fun i => (i.zero, i.size, i.bytes)) = some (some (Value.bool false), 1, 1) := by kernel_rfl
    obtain ⟨i, hi, he⟩ := Option.map_eq_some_iff.1 h
    simp only [Prod.mk.injEq] at he
    exact ⟨i, hi, he.1, he.2.1, he.2.2⟩
  have h := run_make (P := Tryd.prog) w 108 4 i (.bool false) Tryd.underlying108 hi hz .i64 .i64 (n : Int) (n : Int) (by omega) (by omega) (by rw [hb]; omega) (by omega)
  rw [Int.toNat_natCast] at h
  rw [h, hs, madeCells_one _ _ rfl]
theorem make_out (n : Nat) (hn : n ≤ 600) (w : World) : (Instr.makeSlice 191 (.int .i64 (n : Int)) (.int .i64 (n : Int))).run Tryd.prog w = .ok (.slice (some ⟨w.heap.size, 0, none⟩) n n) (w.alloc (.cells (Array.replicate n (Value.slice none 0 0)) 223)) := by
  obtain ⟨i, hi, hz, hs, hb⟩ : ∃ i, Tryd.prog.info? 223 = some i ∧ i.zero = some (.slice none 0 0) ∧ i.size = 1 ∧ i.bytes = 24 := by
    have h : (Tryd.prog.info? 223).map (fun i => (i.zero, i.size, i.bytes)) = some (some (Value.slice none 0 0), 1, 24) := by kernel_rfl
    obtain ⟨i, hi, he⟩ := Option.map_eq_some_iff.1 h
    simp only [Prod.mk.injEq] at he
    exact ⟨i, hi, he.1, he.2.1, he.2.2⟩
  have h := run_make (P := Tryd.prog) w 191 223 i (.slice none 0 0) Tryd.underlying191 hi hz .i64 .i64 (n : Int) (n : Int) (by omega) (by omega) (by rw [hb]; omega) (by omega)
  rw [Int.toNat_natCast] at h
  rw [h, hs, madeCells_one _ _ rfl]

/-! ### the loop -/
/-- How much is still to be done, read off memory. -/
def leftW (f : Wf) (w : World) : Nat :=
  (match w.cell? ⟨f.wb, 7, none⟩ with | some (.slice _ n _) => n | _ => 0) + 2 * (match w.heap[f.sb]? with | some (.cells cs _ _) => cs.toList.countP (fun v => match v with | .bool false => true | _ => false) | _ => 0)
theorem WS.left {w : World} {base : Nat} {f : Wf} {vt : Value} {st : St} (h : WS w base f vt st) : leftW f w = st.left := by
  obtain ⟨A, c, hv, _⟩ := h.own.reads (by decide)
  injection hv with hv
  subst hv
  have e7 := cell_at h.hw 7 rfl
  have e7' : w.cell? ⟨f.wb, 7, none⟩ = some (.slice A st.todo.length c) := e7
  unfold leftW St.left
  rw [e7', h.hs]
  simp only
  congr 2
  rw [List.count, List.countP_map]
  congr 1
  funext b
  cases b <;> rfl
theorem init_ok (n : Nat) : (init n).Ok n := ⟨by simp [init], by simp [init], by simp [init], fun x hx => by simp [init] at hx, fun l hl => by simp [init] at hl; rw [hl.2]; simp⟩
/-- The walk as it begins. -/
theorem WS.init (w : World) (base : Nat) (f : Wf) (hn : f.n ≤ 600) (hne : f.wb ≠ f.sb ∧ f.sb ≠ f.ob ∧ f.wb ≠ f.ob ∧ base ≤ f.wb ∧ base ≤ f.sb ∧ base ≤ f.ob)
    (hw : w.heap[f.wb]? = some (.cells (f.cells (.slice none 0 0) false) 210 (0, 0))) (hs : w.heap[f.sb]? = some (.cells (Array.replicate f.n (Value.bool false)) 4 (0, 0))) (ho : w.heap[f.ob]? = some (.cells (Array.replicate f.n (Value.slice none 0 0)) 223 (0, 0))) :
    WS w base f (.slice none 0 0) (init f.n) :=
  ⟨hw, by rw [hs]; simp [Go.Proofs.YtefkifdhjabdiaaDoor.init], ⟨List.replicate f.n (.slice none 0 0), by rw [ho]; simp, by simp, fun i v l hv hl => by
    obtain ⟨h1, rfl⟩ := by simpa [List.getElem?_replicate] using hv
    obtain ⟨h2, rfl⟩ := by simpa [Go.Proofs.YtefkifdhjabdiaaDoor.init, List.getElem?_replicate] using hl
    exact ⟨none, 0, rfl, Nat.le_refl _, by omega, fun _ => rfl, Rd.C.nil _ _ _ _⟩⟩, Own.nil _ _ _ _ _, hne, ⟨by simp [Value.ownBlock], by simp [Value.ownBlock], by simp [Value.ownBlock]⟩, by simp [Go.Proofs.YtefkifdhjabdiaaDoor.init], by simp [Go.Proofs.YtefkifdhjabdiaaDoor.init], hn⟩
theorem four (w : World) (a b c d : Obj) : ((((w.alloc a).alloc b).alloc c).alloc d).drew.heap[w.heap.size + 1]? = some b ∧ ((((w.alloc a).alloc b).alloc c).alloc d).drew.heap[w.heap.size + 1 + 1]? = some c ∧ ((((w.alloc a).alloc b).alloc c).alloc d).drew.heap[w.heap.size + 1 + 1 + 1]? = some d ∧ Below w.heap.size w ((((w.alloc a).alloc b).alloc c).alloc d).drew := by
  refine ⟨?_, ?_, ?_, ?_⟩
  · show ((((w.alloc a).alloc b).alloc c).alloc d).heap[_]? = _
    rw [Below.heap_alloc _ _ _ (by simp), Below.heap_alloc _ _ _ (by simp)]
    have := heap_alloc_new (w.alloc a) b
    simpa using this
  · show ((((w.alloc a).alloc b).alloc c).alloc d).heap[_]? = _
    rw [Below.heap_alloc _ _ _ (by simp)]
    have := heap_alloc_new ((w.alloc a).alloc b) c
    simpa using this
  · show ((((w.alloc a).alloc b).alloc c).alloc d).heap[_]? = _
    have := heap_alloc_new (((w.alloc a).alloc b).alloc c) d
    simpa using this
  · exact (((((Below.refl _ _).alloc (Nat.le_refl _) _).alloc (by simp) _).alloc (by simp; omega) _).alloc (by simp; omega) _).drew

set_option maxRecDepth 100000 in
set_option maxHeartbeats 8000000 in
theorem tries_any (w : World) (ok : Nat → Prop) (fn : Fn) (v1 : Value) (A : Option Addr) (c : Nat) (hcode : rdOrd.C ok w A fn.code.length fn.code) (hj : jumpsOk fn.code) (hn : fn.code.length ≤ 600) :
    Calls Tryd.prog 122 #[.agg #[.int .i64 fn.params, .int .i64 fn.regs, .bool fn.gen, v1, .slice A fn.code.length c]] w fun e w' => ∃ vo vs, e = .returned (.tuple #[vo, vs, .bool (!(triesF fn.code).bad)]) ∧ (vo.oneCell' = true ∧ vs.oneCell' = true) ∧ Below w.heap.size w w' := by
  have HC : Hid (∀ w', Below w.heap.size w w' → rdOrd.CB w.heap.size w' A fn.code.length fn.code) := Lib.hid (fun w' hb => ((hcode.bound).mono (fun k hk => hk.2)).below hb)
  have HJ := Lib.hid hj
  have mk1 := make_seen fn.code.length hn
  have mk2 := make_out fn.code.length hn
  have HR := Lib.hid (show triesF fn.code = runF fn.code.length fn.code (2 * fn.code.length + 2) (comeF fn.code.length (init fn.code.length) 0 []) from rfl)
  generalize triesF fn.code = R at HR ⊢
  generalize hcl : fn.code.length = n at *
  clear hcode hj
  go_enter Tryd.func122, Tryd.ntmps122
  go_wp2_with fail
  go_region
  · obtain ⟨W, hW⟩ : ∃ W, W = ((((w.alloc (.cells #[.int .i64 fn.params, .int .i64 fn.regs, .bool fn.gen, v1, .slice A n c] 84)).alloc (.cells (Array.replicate n (Value.bool false)) 4)).alloc (.cells (Array.replicate n (Value.slice none 0 0)) 223)).alloc (.cells #[.int .i64 fn.params, .int .i64 fn.regs, .bool fn.gen, v1, .slice A n c, .slice (some ⟨w.heap.size + 1, 0, none⟩) n n, .slice (some ⟨w.heap.size + 1 + 1, 0, none⟩) n n, .slice none 0 0, .bool false] 210)).drew := ⟨_, rfl⟩
    rw [← hW]
    obtain ⟨q1, q2, q3, qB⟩ := four w (.cells #[.int .i64 fn.params, .int .i64 fn.regs, .bool fn.gen, v1, .slice A n c] 84) (.cells (Array.replicate n (Value.bool false)) 4) (.cells (Array.replicate n (Value.slice none 0 0)) 223) (.cells #[.int .i64 fn.params, .int .i64 fn.regs, .bool fn.gen, v1, .slice A n c, .slice (some ⟨w.heap.size + 1, 0, none⟩) n n, .slice (some ⟨w.heap.size + 1 + 1, 0, none⟩) n n, .slice none 0 0, .bool false] 210)
    rw [← hW] at q1 q2 q3 qB
    have hWS : WS W w.heap.size ⟨n, w.heap.size + 1 + 1 + 1, w.heap.size + 1, w.heap.size + 1 + 1, fn.params, fn.regs, fn.gen, v1, A, c⟩ (.slice none 0 0) (init n) := WS.init W w.heap.size ⟨n, w.heap.size + 1 + 1 + 1, w.heap.size + 1, w.heap.size + 1 + 1, fn.params, fn.regs, fn.gen, v1, A, c⟩ hn (by simp; omega) q3 q1 q2
    have hsz := qB.size
    clear hW q1 q2 q3 mk1 mk2
    generalize w.heap.size + 1 + 1 + 1 = wb at hWS ⊢
    generalize w.heap.size + 1 + 1 = ob at hWS ⊢
    generalize w.heap.size + 1 = sb at hWS ⊢
    obtain ⟨f, hf⟩ : ∃ f : Wf, f = ⟨n, wb, sb, ob, fn.params, fn.regs, fn.gen, v1, A, c⟩ := ⟨_, rfl⟩
    rw [← hf] at hWS
    have f1 : f.wb = wb := by rw [hf]
    have f2 : f.n = n := by rw [hf]
    have f3 : f.A5 = A := by rw [hf]
    have HCM := come_any W w.heap.size hsz f _ _ hWS 0 (by omega) (.slice none 0 0) [] ⟨none, 0, rfl, Nat.le_refl _, by omega, fun _ => rfl, Rd.C.nil _ _ _ _⟩ (by simp [init])
    rw [f1, f2] at HCM
    have ok0 := comeF_ok (init_ok n) 0 (by omega) []
    have lf0 : (init n).left = 2 * n := by simp [init, St.left]
    obtain ⟨st0, hst0⟩ : ∃ st0, st0 = comeF n (init n) 0 [] := ⟨_, rfl⟩
    rw [← hst0] at HCM ok0 HR
    have HST := Lib.hid ok0
    have HCM' := Lib.hid HCM
    have HF := Lib.hid hf
    have HB := Lib.hid qB
    clear hWS HCM ok0 hst0 hf qB hsz
    go_wp2_with fail
    refine (HCM'.out).mono ?_
    rintro e w2 ⟨rfl, hb, vt2, hk, hws⟩
    have hI : WS w2 w.heap.size f vt2 st0 ∧ Below w.heap.size w w2 := ⟨hws, HB.out.trans hb⟩
    have HI := Lib.hid hI
    clear hb hk hws hI HCM'
    go_wp2_with fail
    go_loopw [] (fun wr => ∃ (vt : Value) (st : St) (k : Nat), Hid (WS wr w.heap.size f vt st) ∧ Hid (Below w.heap.size w wr) ∧ Hid (st.Ok n) ∧ Hid (st.left + k ≤ 2 * n) ∧ Hid (∀ m, runF n fn.code (m + k) st0 = runF n fn.code m st)) (fun wr => leftW f wr)
    case atStart => exact ⟨vt2, st0, 0, Lib.hid HI.out.1, Lib.hid HI.out.2, Lib.hid HST.out.1, Lib.hid (by have := HST.out.2; rw [lf0] at this; simpa using this), Lib.hid (fun m => rfl)⟩
    case round =>
      obtain ⟨vt, st, k, HW, HBl, HO, HLe, HRu⟩ := hrel
      obtain ⟨A', c', hvt⟩ : ∃ A' c', vt = .slice A' st.todo.length c' := by
        obtain ⟨A', c', hv, _⟩ := HW.out.own.reads (by decide)
        injection hv with hv
        exact ⟨_, _, hv⟩
      subst hvt
      have e5 : wr.cell? ⟨f.wb, 5, none⟩ = some (.slice (some ⟨f.sb, 0, none⟩) f.n f.n) := cell_at HW.out.hw 5 rfl
      have e6 : wr.cell? ⟨f.wb, 6, none⟩ = some (.slice (some ⟨f.ob, 0, none⟩) f.n f.n) := cell_at HW.out.hw 6 rfl
      have e7 : wr.cell? ⟨f.wb, 7, none⟩ = some (.slice A' st.todo.length c') := cell_at HW.out.hw 7 rfl
      have e8 : wr.cell? ⟨f.wb, 8, none⟩ = some (.bool st.bad) := cell_at HW.out.hw 8 rfl
      have fr : wr.frozen? ⟨f.wb, 7, none⟩ = false := free_at HW.out.hw 7
      have hct : st.todo.length ≤ n := by have := HO.out.ct; omega
      rw [f1] at e5 e6 e7 e8 fr
      have fin : (st.todo = [] ∨ st.bad = true) → R = st := fun hd => by
        have h1 := HRu.out (2 * n + 2 - k)
        have h2 := HLe.out
        rw [show 2 * n + 2 - k + k = 2 * n + 2 by omega, ← HR.out, runF_done hd] at h1
        exact h1
      have HFin := Lib.hid fin
      clear fin
      by_cases ht : st.todo = []
      · have hR := HFin.out (.inl ht)
        have hl0 : st.todo.length = 0 := by rw [ht]; rfl
        rw [hl0] at e7
        have HRR := Lib.hid hR
        clear hR ht hl0
        go_wp2_with fail
        go_quiet (fail)
        go_wp2_with fail
        refine bodyPost_ret (v := .tuple #[.slice (some ⟨f.ob, 0, none⟩) f.n f.n, .slice (some ⟨f.sb, 0, none⟩) f.n f.n, .bool (!st.bad)]) (by simp [results, Tryd.results122, go_sem, f2]) rfl ⟨_, _, by rw [HRR.out], ⟨rfl, rfl⟩, ?_⟩
        exact ⟨HBl.out.os, HBl.out.tape, HBl.out.output, HBl.out.size, HBl.out.block⟩
      · obtain ⟨m, hm⟩ : ∃ m, st.todo.length = m + 1 := ⟨st.todo.length - 1, by have := List.length_pos_iff.2 ht; omega⟩
        cases hbd : st.bad with
        | true =>
          have HRR := Lib.hid (HFin.out (.inr hbd))
          rw [hm] at e7
          rw [hbd] at e8
          go_wp2_with fail
          go_quiet (fail)
          go_wp2_with fail
          refine bodyPost_ret (v := .tuple #[.slice (some ⟨f.ob, 0, none⟩) f.n f.n, .slice (some ⟨f.sb, 0, none⟩) f.n f.n, .bool false]) (by simp [results, Tryd.results122, go_sem, f2]) rfl ⟨_, _, by rw [HRR.out, hbd]; rfl, ⟨rfl, rfl⟩, ?_⟩
          exact ⟨HBl.out.os, HBl.out.tape, HBl.out.output, HBl.out.size, HBl.out.block⟩
        | false =>
          obtain ⟨x, hx⟩ : ∃ x, st.todo[m]? = some x := ⟨_, List.getElem?_eq_getElem (by omega)⟩
          obtain ⟨A2, c2, hv2, _, _, _, hC2⟩ := HW.out.own.reads (by decide)
          injection hv2 with hv2
          injection hv2 with hv2 _ hv3
          subst hv2 hv3
          obtain ⟨ad, cs, rfl, _, _, ⟨rfl, hxi⟩, hc0, _⟩ := hC2.elem m x hx
          have ex : wr.cell? (ad.add m) = some (.int .i64 x) := by have := hc0 _ rfl; simpa [Rd.int] using this
          rw [hm] at e7
          rw [hbd] at e8
          clear hc0 hC2
          have htd := HO.out.td x (List.mem_of_getElem? hx)
          obtain ⟨i, rfl⟩ := Int.eq_ofNat_of_zero_le htd.1
          have hgl : st.todo.getLast?.getD 0 = (i : Int) := by rw [List.getLast?_eq_getElem?, hm, Nat.add_sub_cancel, hx]; rfl
          have htf : turnF n fn.code st = fromF n fn.code { st with todo := st.todo.dropLast } i := by unfold turnF; rw [hgl, Int.toNat_natCast]
          have HP : Hid (∀ q, Below w.heap.size wr ((wr.drewN q).setCell ⟨wb, 7, none⟩ (.slice (some ad) m c')) ∧ WS ((wr.drewN q).setCell ⟨wb, 7, none⟩ (.slice (some ad) m c')) w.heap.size f (.slice (some ad) m c') { st with todo := st.todo.dropLast }) := Lib.hid (fun q => by
            have h0 := HW.out.same (w1 := wr.drewN q) (fun _ _ => rfl)
            have h1 := h0.pop ht
            have h2 := h0.below 7 (.slice (some ad) m c')
            rw [hm, Nat.add_sub_cancel, f1] at h1
            rw [f1] at h2
            exact ⟨⟨h2.os, h2.tape, h2.output, h2.size, h2.block⟩, h1⟩)
          have HT := Lib.hid (And.intro htf (And.intro (turnF_ok HO.out HJ.out ht) (show runF n fn.code 1 st = turnF n fn.code st by simp [runF, ht, hbd])))
          have HOld := Lib.hid (And.intro HW.out.left (And.intro ht hbd))
          have HI2 := Lib.hid htd.2
          clear hgl htf htd hx hxi
          go_wp2_with fail
          go_quiet (fail)
          go_wp2_with fail
          go_region
          obtain ⟨W3, hW3⟩ : ∃ W3, W3 = (wr.drewN (nq + 1)).setCell ⟨wb, 7, none⟩ (.slice (some ad) m c') := ⟨_, rfl⟩
          rw [← hW3]
          obtain ⟨pB, pW⟩ := HP.out (nq + 1)
          rw [← hW3] at pB pW
          have pB2 := HBl.out.trans pB
          have HFR : Hid (Calls Tryd.prog 150 #[.pointer (some ⟨wb, 0, none⟩), .int .i64 i] W3 fun e w' => e = .returned (.tuple #[]) ∧ Below w.heap.size W3 w' ∧ ∃ vt', Kept f W3 w' (.slice (some ad) m c') vt' ∧ WS w' w.heap.size f vt' (fromF n fn.code { st with todo := st.todo.dropLast } i)) := Lib.hid (by
            have := from_any W3 w.heap.size pB2.size f _ _ pW (by have := HO.out.ct; simp only [List.length_dropLast]; omega) i (by rw [f2]; have := HI2.out; omega) fn.code (by rw [f3, f2]; exact HC.out _ pB2) HJ.out HO.out.l20
            rwa [f1, f2] at this)
          have HB3 := Lib.hid pB2
          clear pB pW pB2 hW3 e5 e6 e7 e8 fr ex
          go_wp2_with fail
          refine (HFR.out).mono ?_
          rintro e w4 ⟨rfl, hb, vt3, hk, hws⟩
          have HN := Lib.hid (And.intro hws (HB3.out.trans hb))
          clear hb hk hws
          go_wp2_with fail
          go_roundw
          case rel =>
            obtain ⟨t1, ⟨t2, t3⟩, t4⟩ := HT.out
            refine ⟨vt3, turnF n fn.code st, k + 1, Lib.hid (by rw [t1]; exact HN.out.1), Lib.hid HN.out.2, Lib.hid t2, Lib.hid (by have := HLe.out; omega), Lib.hid (fun q => ?_)⟩
            have h1 := HRu.out (q + 1)
            rw [show q + (k + 1) = q + 1 + k by omega, h1]
            simp only [runF, HOld.out.2.1, HOld.out.2.2]
            simp
          case measure =>
            obtain ⟨t1, ⟨t2, t3⟩, t4⟩ := HT.out
            rw [HOld.out.1, HN.out.1.left, ← t1]
            exact t3
  · obtain ⟨W, hW⟩ : ∃ W, W = ((((w.alloc (.cells #[.int .i64 fn.params, .int .i64 fn.regs, .bool fn.gen, v1, .slice A n c] 84)).alloc (.cells (Array.replicate n (Value.slice none 0 0)) 223)).alloc (.cells (Array.replicate n (Value.bool false)) 4)).alloc (.cells #[.int .i64 fn.params, .int .i64 fn.regs, .bool fn.gen, v1, .slice A n c, .slice (some ⟨w.heap.size + 1 + 1, 0, none⟩) n n, .slice (some ⟨w.heap.size + 1, 0, none⟩) n n, .slice none 0 0, .bool false] 210)).drew := ⟨_, rfl⟩
    rw [← hW]
    obtain ⟨q1, q2, q3, qB⟩ := four w (.cells #[.int .i64 fn.params, .int .i64 fn.regs, .bool fn.gen, v1, .slice A n c] 84) (.cells (Array.replicate n (Value.slice none 0 0)) 223) (.cells (Array.replicate n (Value.bool false)) 4) (.cells #[.int .i64 fn.params, .int .i64 fn.regs, .bool fn.gen, v1, .slice A n c, .slice (some ⟨w.heap.size + 1 + 1, 0, none⟩) n n, .slice (some ⟨w.heap.size + 1, 0, none⟩) n n, .slice none 0 0, .bool false] 210)
    rw [← hW] at q1 q2 q3 qB
    have hWS : WS W w.heap.size ⟨n, w.heap.size + 1 + 1 + 1, w.heap.size + 1 + 1, w.heap.size + 1, fn.params, fn.regs, fn.gen, v1, A, c⟩ (.slice none 0 0) (init n) := WS.init W w.heap.size ⟨n, w.heap.size + 1 + 1 + 1, w.heap.size + 1 + 1, w.heap.size + 1, fn.params, fn.regs, fn.gen, v1, A, c⟩ hn (by simp; omega) q3 q2 q1
    have hsz := qB.size
    clear hW q1 q2 q3 mk1 mk2
    generalize w.heap.size + 1 + 1 + 1 = wb at hWS ⊢
    generalize w.heap.size + 1 + 1 = sb at hWS ⊢
    generalize w.heap.size + 1 = ob at hWS ⊢
    obtain ⟨f, hf⟩ : ∃ f : Wf, f = ⟨n, wb, sb, ob, fn.params, fn.regs, fn.gen, v1, A, c⟩ := ⟨_, rfl⟩
    rw [← hf] at hWS
    have f1 : f.wb = wb := by rw [hf]
    have f2 : f.n = n := by rw [hf]
    have f3 : f.A5 = A := by rw [hf]
    have HCM := come_any W w.heap.size hsz f _ _ hWS 0 (by omega) (.slice none 0 0) [] ⟨none, 0, rfl, Nat.le_refl _, by omega, fun _ => rfl, Rd.C.nil _ _ _ _⟩ (by simp [init])
    rw [f1, f2] at HCM
    have ok0 := comeF_ok (init_ok n) 0 (by omega) []
    have lf0 : (init n).left = 2 * n := by simp [init, St.left]
    obtain ⟨st0, hst0⟩ : ∃ st0, st0 = comeF n (init n) 0 [] := ⟨_, rfl⟩
    rw [← hst0] at HCM ok0 HR
    have HST := Lib.hid ok0
    have HCM' := Lib.hid HCM
    have HF := Lib.hid hf
    have HB := Lib.hid qB
    clear hWS HCM ok0 hst0 hf qB hsz
    go_wp2_with fail
    refine (HCM'.out).mono ?_
    rintro e w2 ⟨rfl, hb, vt2, hk, hws⟩
    have hI : WS w2 w.heap.size f vt2 st0 ∧ Below w.heap.size w w2 := ⟨hws, HB.out.trans hb⟩
    have HI := Lib.hid hI
    clear hb hk hws hI HCM'
    go_wp2_with fail
    go_loopw [] (fun wr => ∃ (vt : Value) (st : St) (k : Nat), Hid (WS wr w.heap.size f vt st) ∧ Hid (Below w.heap.size w wr) ∧ Hid (st.Ok n) ∧ Hid (st.left + k ≤ 2 * n) ∧ Hid (∀ m, runF n fn.code (m + k) st0 = runF n fn.code m st)) (fun wr => leftW f wr)
    case atStart => exact ⟨vt2, st0, 0, Lib.hid HI.out.1, Lib.hid HI.out.2, Lib.hid HST.out.1, Lib.hid (by have := HST.out.2; rw [lf0] at this; simpa using this), Lib.hid (fun m => rfl)⟩
    case round =>
      obtain ⟨vt, st, k, HW, HBl, HO, HLe, HRu⟩ := hrel
      obtain ⟨A', c', hvt⟩ : ∃ A' c', vt = .slice A' st.todo.length c' := by
        obtain ⟨A', c', hv, _⟩ := HW.out.own.reads (by decide)
        injection hv with hv
        exact ⟨_, _, hv⟩
      subst hvt
      have e5 : wr.cell? ⟨f.wb, 5, none⟩ = some (.slice (some ⟨f.sb, 0, none⟩) f.n f.n) := cell_at HW.out.hw 5 rfl
      have e6 : wr.cell? ⟨f.wb, 6, none⟩ = some (.slice (some ⟨f.ob, 0, none⟩) f.n f.n) := cell_at HW.out.hw 6 rfl
      have e7 : wr.cell? ⟨f.wb, 7, none⟩ = some (.slice A' st.todo.length c') := cell_at HW.out.hw 7 rfl
      have e8 : wr.cell? ⟨f.wb, 8, none⟩ = some (.bool st.bad) := cell_at HW.out.hw 8 rfl
      have fr : wr.frozen? ⟨f.wb, 7, none⟩ = false := free_at HW.out.hw 7
      have hct : st.todo.length ≤ n := by have := HO.out.ct; omega
      rw [f1] at e5 e6 e7 e8 fr
      have fin : (st.todo = [] ∨ st.bad = true) → R = st := fun hd => by
        have h1 := HRu.out (2 * n + 2 - k)
        have h2 := HLe.out
        rw [show 2 * n + 2 - k + k = 2 * n + 2 by omega, ← HR.out, runF_done hd] at h1
        exact h1
      have HFin := Lib.hid fin
      clear fin
      by_cases ht : st.todo = []
      · have hR := HFin.out (.inl ht)
        have hl0 : st.todo.length = 0 := by rw [ht]; rfl
        rw [hl0] at e7
        have HRR := Lib.hid hR
        clear hR ht hl0
        go_wp2_with fail
        go_quiet (fail)
        go_wp2_with fail
        refine bodyPost_ret (v := .tuple #[.slice (some ⟨f.ob, 0, none⟩) f.n f.n, .slice (some ⟨f.sb, 0, none⟩) f.n f.n, .bool (!st.bad)]) (by simp [results, Tryd.results122, go_sem, f2]) rfl ⟨_, _, by rw [HRR.out], ⟨rfl, rfl⟩, ?_⟩
        exact ⟨HBl.out.os, HBl.out.tape, HBl.out.output, HBl.out.size, HBl.out.block⟩
      · obtain ⟨m, hm⟩ : ∃ m, st.todo.length = m + 1 := ⟨st.todo.length - 1, by have := List.length_pos_iff.2 ht; omega⟩
        cases hbd : st.bad with
        | true =>
          have HRR := Lib.hid (HFin.out (.inr hbd))
          rw [hm] at e7
          rw [hbd] at e8
          go_wp2_with fail
          go_quiet (fail)
          go_wp2_with fail
          refine bodyPost_ret (v := .tuple #[.slice (some ⟨f.ob, 0, none⟩) f.n f.n, .slice (some ⟨f.sb, 0, none⟩) f.n f.n, .bool false]) (by simp [results, Tryd.results122, go_sem, f2]) rfl ⟨_, _, by rw [HRR.out, hbd]; rfl, ⟨rfl, rfl⟩, ?_⟩
          exact ⟨HBl.out.os, HBl.out.tape, HBl.out.output, HBl.out.size, HBl.out.block⟩
        | false =>
          obtain ⟨x, hx⟩ : ∃ x, st.todo[m]? = some x := ⟨_, List.getElem?_eq_getElem (by omega)⟩
          obtain ⟨A2, c2, hv2, _, _, _, hC2⟩ := HW.out.own.reads (by decide)
          injection hv2 with hv2
          injection hv2 with hv2 _ hv3
          subst hv2 hv3
          obtain ⟨ad, cs, rfl, _, _, ⟨rfl, hxi⟩, hc0, _⟩ := hC2.elem m x hx
          have ex : wr.cell? (ad.add m) = some (.int .i64 x) := by have := hc0 _ rfl; simpa [Rd.int] using this
          rw [hm] at e7
          rw [hbd] at e8
          clear hc0 hC2
          have htd := HO.out.td x (List.mem_of_getElem? hx)
          obtain ⟨i, rfl⟩ := Int.eq_ofNat_of_zero_le htd.1
          have hgl : st.todo.getLast?.getD 0 = (i : Int) := by rw [List.getLast?_eq_getElem?, hm, Nat.add_sub_cancel, hx]; rfl
          have htf : turnF n fn.code st = fromF n fn.code { st with todo := st.todo.dropLast } i := by unfold turnF; rw [hgl, Int.toNat_natCast]
          have HP : Hid (∀ q, Below w.heap.size wr ((wr.drewN q).setCell ⟨wb, 7, none⟩ (.slice (some ad) m c')) ∧ WS ((wr.drewN q).setCell ⟨wb, 7, none⟩ (.slice (some ad) m c')) w.heap.size f (.slice (some ad) m c') { st with todo := st.todo.dropLast }) := Lib.hid (fun q => by
            have h0 := HW.out.same (w1 := wr.drewN q) (fun _ _ => rfl)
            have h1 := h0.pop ht
            have h2 := h0.below 7 (.slice (some ad) m c')
            rw [hm, Nat.add_sub_cancel, f1] at h1
            rw [f1] at h2
            exact ⟨⟨h2.os, h2.tape, h2.output, h2.size, h2.block⟩, h1⟩)
          have HT := Lib.hid (And.intro htf (And.intro (turnF_ok HO.out HJ.out ht) (show runF n fn.code 1 st = turnF n fn.code st by simp [runF, ht, hbd])))
          have HOld := Lib.hid (And.intro HW.out.left (And.intro ht hbd))
          have HI2 := Lib.hid htd.2
          clear hgl htf htd hx hxi
          go_wp2_with fail
          go_quiet (fail)
          go_wp2_with fail
          go_region
          obtain ⟨W3, hW3⟩ : ∃ W3, W3 = (wr.drewN (nq + 1)).setCell ⟨wb, 7, none⟩ (.slice (some ad) m c') := ⟨_, rfl⟩
          rw [← hW3]
          obtain ⟨pB, pW⟩ := HP.out (nq + 1)
          rw [← hW3] at pB pW
          have pB2 := HBl.out.trans pB
          have HFR : Hid (Calls Tryd.prog 150 #[.pointer (some ⟨wb, 0, none⟩), .int .i64 i] W3 fun e w' => e = .returned (.tuple #[]) ∧ Below w.heap.size W3 w' ∧ ∃ vt', Kept f W3 w' (.slice (some ad) m c') vt' ∧ WS w' w.heap.size f vt' (fromF n fn.code { st with todo := st.todo.dropLast } i)) := Lib.hid (by
            have := from_any W3 w.heap.size pB2.size f _ _ pW (by have := HO.out.ct; simp only [List.length_dropLast]; omega) i (by rw [f2]; have := HI2.out; omega) fn.code (by rw [f3, f2]; exact HC.out _ pB2) HJ.out HO.out.l20
            rwa [f1, f2] at this)
          have HB3 := Lib.hid pB2
          clear pB pW pB2 hW3 e5 e6 e7 e8 fr ex
          go_wp2_with fail
          refine (HFR.out).mono ?_
          rintro e w4 ⟨rfl, hb, vt3, hk, hws⟩
          have HN := Lib.hid (And.intro hws (HB3.out.trans hb))
          clear hb hk hws
          go_wp2_with fail
          go_roundw
          case rel =>
            obtain ⟨t1, ⟨t2, t3⟩, t4⟩ := HT.out
            refine ⟨vt3, turnF n fn.code st, k + 1, Lib.hid (by rw [t1]; exact HN.out.1), Lib.hid HN.out.2, Lib.hid t2, Lib.hid (by have := HLe.out; omega), Lib.hid (fun q => ?_)⟩
            have h1 := HRu.out (q + 1)
            rw [show q + (k + 1) = q + 1 + k by omega, h1]
            simp only [runF, HOld.out.2.1, HOld.out.2.2]
            simp
          case measure =>
            obtain ⟨t1, ⟨t2, t3⟩, t4⟩ := HT.out
            rw [HOld.out.1, HN.out.1.left, ← t1]
            exact t3
end Go.Proofs.YtefkifdhjabdiaaDoor
namespace Go.Proofs.YtefkifdhjabdiaaDoor
set_option linter.unusedVariables false
set_option linter.unusedSimpArgs false
open Go.RowKit

def lkOf (p : Prog) (f : Fn) : Lk := ⟨p.fns.length, p.consts.length, p.texts.length, f.regs, f.caught.length, f.code.length⟩
def ordersF (p : Prog) (f : Fn) : Bool := (List.range f.code.length).all fun i => match f.code[i]? with | some o => orderF p.fns (lkOf p f) f.gen (i : Int) o | none => true
def headF (f : Fn) : Bool := decide (0 ≤ f.params) && decide (1 ≤ f.regs) && decide (f.params ≤ f.regs)
def functionF (p : Prog) (f : Fn) : Bool := headF f && ordersF p f && !(triesF f.code).bad

theorem form_13 {a b c : UInt8} (h : formF 13 = some (a, b, c)) : a = 97 := by
  have h : some _ = some (a, b, c) := h
  injection h with h
  injection h with ha h
  exact ha.symm
theorem form_14 {a b c : UInt8} (h : formF 14 = some (a, b, c)) : a = 97 := by
  have h : some _ = some (a, b, c) := h
  injection h with h
  injection h with ha h
  exact ha.symm
theorem form_15 {a b c : UInt8} (h : formF 15 = some (a, b, c)) : b = 97 := by
  have h : some _ = some (a, b, c) := h
  injection h with h
  injection h with ha h
  injection h with hb hc
  exact hb.symm
theorem form_30 {a b c : UInt8} (h : formF 30 = some (a, b, c)) : b = 97 := by
  have h : some _ = some (a, b, c) := h
  injection h with h
  injection h with ha h
  injection h with hb hc
  exact hb.symm
theorem order_names {fns : List Fn} {l : Lk} {gen : Bool} {at_ : Int} {i : Ord} (h : orderF fns l gen at_ i = true) : ∃ a b c, formF i.op = some (a, b, c) ∧ namesF l a i.a = true ∧ namesF l b i.b = true ∧ namesF l c i.c = true := by
  unfold orderF at h
  cases hf : formF i.op with
  | none => rw [hf] at h; simp at h
  | some F =>
    obtain ⟨a, b, c⟩ := F
    rw [hf] at h
    simp only [Bool.and_eq_true] at h
    exact ⟨a, b, c, rfl, h.1.1.1.2, h.1.1.2, h.1.2⟩
theorem order_jumps {fns : List Fn} {l : Lk} {gen : Bool} {at_ : Int} {i : Ord} (h : orderF fns l gen at_ i = true) : ((i.op = 13 ∨ i.op = 14) → 0 ≤ i.a) ∧ ((i.op = 15 ∨ i.op = 30) → 0 ≤ i.b) := by
  obtain ⟨a, b, c, hf, ha, hb, hc⟩ := order_names h
  refine ⟨fun ho => ?_, fun ho => ?_⟩
  · have h97 : a = 97 := by
      rcases ho with ho | ho
      · rw [ho] at hf; exact form_13 hf
      · rw [ho] at hf; exact form_14 hf
    subst h97
    have h1 : withinF i.a 0 ((l.no : Int) - 1) = true := ha
    exact (within_iff.1 h1).1
  · have h97 : b = 97 := by
      rcases ho with ho | ho
      · rw [ho] at hf; exact form_15 hf
      · rw [ho] at hf; exact form_30 hf
    subst h97
    have h1 : withinF i.b 0 ((l.no : Int) - 1) = true := hb
    exact (within_iff.1 h1).1
theorem orders_at {p : Prog} {f : Fn} : ordersF p f = true ↔ ∀ (i : Nat) (o : Ord), f.code[i]? = some o → orderF p.fns (lkOf p f) f.gen (i : Int) o = true := by
  unfold ordersF
  rw [List.all_eq_true]
  constructor
  · intro h i o ho
    have := h i (by rw [List.mem_range]; exact (List.getElem?_eq_some_iff.1 ho).1)
    rwa [ho] at this
  · intro h i hi
    cases ho : f.code[i]? with
    | none => rfl
    | some o => exact h i o ho
theorem orders_jumps {p : Prog} {f : Fn} (h : ordersF p f = true) : jumpsOk f.code := fun o ho => by
  obtain ⟨i, hi, e⟩ := List.mem_iff_getElem.1 ho
  exact order_jumps (orders_at.1 h i o (by rw [List.getElem?_eq_getElem hi, e]))
end Go.Proofs.YtefkifdhjabdiaaDoor
namespace Go.Proofs.YtefkifdhjabdiaaDoor
set_option linter.unusedVariables false
set_option linter.unusedSimpArgs false
open Go.RowKit
theorem C_map {α β : Type} {d : Rd α} {d' : Rd β} (φ : α → β) (hs : d.sz = d'.sz) {ok : Nat → Prop} {w : World} (hK : ∀ x cs, d.K ok w x cs → d'.K ok w (φ x) cs) {A : Option Addr} {n : Nat} {xs : List α} (h : d.C ok w A n xs) : d'.C ok w A n (xs.map φ) :=
  ⟨by simpa using h.1, h.2.1, fun hn => by
    obtain ⟨ad, e, h1, h2, h3⟩ := h.2.2 hn
    refine ⟨ad, e, h1, h2, fun i x hi => ?_⟩
    rw [List.getElem?_map] at hi
    obtain ⟨y, hy, rfl⟩ := Option.map_eq_some_iff.1 hi
    obtain ⟨cs, hk, hc⟩ := h3 i y hy
    exact ⟨cs, hK y cs hk, fun j u hj => by rw [← hs]; exact hc j u hj⟩⟩
theorem sl_map {α β : Type} {d : Rd α} {d' : Rd β} (φ : α → β) (hs : d.sz = d'.sz) {ok : Nat → Prop} {w : World} (hK : ∀ x cs, d.K ok w x cs → d'.K ok w (φ x) cs) {xs : List α} {v : Value} (h : SlK d ok w xs v) : SlK d' ok w (xs.map φ) v := by
  obtain ⟨A, c, hv, h1, h2, h3, hC⟩ := h
  exact ⟨A, c, by simpa using hv, by simpa using h1, h2, by simpa using h3, by simpa using C_map φ hs hK hC⟩
def toOrd (o : EOrd) : Ord := ⟨o.1, o.2.1, o.2.2.1, o.2.2.2.1, o.2.2.2.2⟩
def toFn (f : EFn) : Fn := ⟨f.1, f.2.1, f.2.2.1, f.2.2.2.1, f.2.2.2.2.map toOrd⟩
def toVal (v : EVal) : Val := ⟨v.1, v.2⟩
def toProg (p : EProg) : Prog := ⟨p.1.map toFn, p.2.1.map toVal, p.2.2⟩
theorem tOrd_K {ok : Nat → Prop} {w : World} (x : EOrd) (cs : List Value) (h : tOrd.rd.K ok w x cs) : rdOrd.K ok w (toOrd x) cs := by
  obtain ⟨_, _, rfl, ⟨rfl, i0⟩, _, _, rfl, ⟨rfl, i1⟩, _, _, rfl, ⟨rfl, i2⟩, _, _, rfl, ⟨rfl, i3⟩, ⟨rfl, i4⟩⟩ := h
  exact ⟨rfl, i64_iff.1 i0, i64_iff.1 i1, i64_iff.1 i2, i64_iff.1 i3, i64_iff.1 i4⟩
theorem tI_K {ok : Nat → Prop} {w : World} (x : Int) (cs : List Value) (h : tI.rd.K ok w x cs) : Rd.int.K ok w x cs := ⟨h.1, i64_iff.1 h.2⟩
theorem ints_of {ok : Nat → Prop} {w : World} {xs : List Int} {v : Value} (h : SlK tI.rd ok w xs v) : SlK Rd.int ok w xs v := by
  have := sl_map (d := tI.rd) (d' := Rd.int) id rfl tI_K h
  simpa using this
theorem tFn_K {ok : Nat → Prop} {w : World} (x : EFn) (cs : List Value) (h : tFn.rd.K ok w x cs) : rdFn.K ok w (toFn x) cs := by
  obtain ⟨_, _, rfl, ⟨rfl, i0⟩, _, _, rfl, ⟨rfl, i1⟩, _, _, rfl, h2, _, _, rfl, h3, h4⟩ := h
  obtain rfl := h2
  obtain ⟨v3, rfl, hv3⟩ := SlK_of h3
  obtain ⟨v4, rfl, hv4⟩ := SlK_of h4
  exact ⟨v3, v4, rfl, ⟨i64_iff.1 i0, i64_iff.1 i1⟩, ints_of hv3, sl_map toOrd rfl tOrd_K hv4⟩
theorem fns_of {ok : Nat → Prop} {w : World} {xs : List EFn} {v : Value} (h : SlK tFn.rd ok w xs v) : SlK rdFn ok w (xs.map toFn) v := sl_map toFn rfl tFn_K h
theorem prog_vals {σ : Sg} {w : World} {p : EProg} {x : Value} (h : CA σ w (.agg (tProg.enc p)) x) : ∃ A1 A2 A3 c1 c2 c3, x = .agg #[.slice A1 p.1.length c1, .slice A2 p.2.1.length c2, .slice A3 p.2.2.length c3] ∧ rdFn.C σ.R w A1 p.1.length (p.1.map toFn) ∧ p.2.1.length ≤ 9223372036854775807 ∧ Rd.str.C σ.R w A3 p.2.2.length p.2.2 ∧ p.1.length ≤ 9223372036854775807 ∧ p.2.2.length ≤ 9223372036854775807 := by
  obtain ⟨cs, hx, hcs⟩ := h
  obtain ⟨v1, r1, e1, h1, q1⟩ := cons_one (c := .ro tFn p.1) (cs := [.ro tVal p.2.1, .ro .str p.2.2]) hcs
  obtain ⟨v2, r2, e2, h2, q2⟩ := cons_one q1
  obtain ⟨v3, r3, e3, h3, q3⟩ := cons_one q2
  obtain rfl := nil_one q3
  have h1' := fns_of (h1 : SlK tFn.rd σ.R w p.1 v1)
  obtain ⟨A1, c1, w1, a1, b1, d1, C1⟩ := h1'
  obtain ⟨A2, c2, w2, a2, b2, d2, C2⟩ := h2
  obtain ⟨A3, c3, w3, a3, b3, d3, C3⟩ := h3
  injection w1 with w1
  injection w2 with w2
  injection w3 with w3
  rw [List.length_map] at w1 C1
  refine ⟨A1, A2, A3, c1, c2, c3, ?_, C1, C2.2.1, C3, C1.2.1, C3.2.1⟩
  rw [hx]
  congr 1
  apply Array.toList_inj.1
  rw [e1, e2, e3, w1, w2, w3]
theorem large_fun (p : EProg) : AFun Tryd.prog 79 [.agg (tProg.enc p)] (.c (.bool (largeF (toProg p)))) := fun R w vs hR hG hv => by
  left
  refine ⟨enters_of Tryd.func79 (by decide) rfl _ _, ?_⟩
  obtain ⟨x, r, rfl, hx, hr⟩ := vals_one hv
  obtain rfl := vals_nil hr
  obtain ⟨A1, A2, A3, c1, c2, c3, rfl, C1, l2, C3, _⟩ := prog_vals hx
  have := large_any (toProg p) R w A1 A2 A3 c1 c2 c3 (by simpa [toProg] using C1) (by simpa [toProg] using l2) (by simpa [toProg] using C3)
  simp only [toProg, List.length_map] at this
  exact this.mono fun e w' ⟨he, hb⟩ => ⟨_, he, hb, rfl⟩
theorem form_fun (op : Int) : AFun Tryd.prog 144 [.c (.int .i64 op)] (.c (.str (formS op))) := fun R w vs hR hG hv => by
  left
  refine ⟨enters_of Tryd.func144 (by decide) rfl _ _, ?_⟩
  obtain ⟨x, r, rfl, ⟨hx, _⟩, hr⟩ := vals_one hv
  obtain rfl := vals_nil hr
  subst hx
  refine (form_any op w).mono fun e w' ⟨he, hb⟩ => ⟨_, he, hb, rfl, ?_⟩
  unfold formS
  cases formF op with
  | none => show (0 : Nat) ≤ _; omega
  | some t => obtain ⟨a, b, c⟩ := t; show (3 : Nat) ≤ _; omega
theorem tries_fun (f : EFn) (hj : jumpsOk (toFn f).code) (hn : f.2.2.2.2.length ≤ 600) : AFun Tryd.prog 122 [.agg (tFn.enc f)] (.tup [.c .junk, .c .junk, .c (.bool (!(triesF (toFn f).code).bad))]) := fun R w vs hR hG hv => by
  left
  refine ⟨enters_of Tryd.func122 (by decide) rfl _ _, ?_⟩
  obtain ⟨y, r, rfl, ⟨cs, hy, hcs⟩, hr⟩ := vals_one hv
  obtain rfl := vals_nil hr
  obtain ⟨v1, r1, e1, ⟨h1, i1⟩, q1⟩ := cons_one (c := .int .i64 f.1) (cs := [.int .i64 f.2.1, .bool f.2.2.1, .ro tI f.2.2.2.1, .ro tOrd f.2.2.2.2]) hcs
  obtain ⟨v2, r2, e2, ⟨h2, i2⟩, q2⟩ := cons_one q1
  obtain ⟨v3, r3, e3, h3, q3⟩ := cons_one q2
  obtain ⟨v4, r4, e4, h4, q4⟩ := cons_one q3
  obtain ⟨v5, r5, e5, h5, q5⟩ := cons_one q4
  obtain rfl := nil_one q5
  have h5' := sl_map toOrd rfl tOrd_K (h5 : SlK tOrd.rd R w f.2.2.2.2 v5)
  obtain ⟨A5, c5, w5, a5, b5, d5, C5⟩ := h5'
  injection w5 with w5
  rw [List.length_map] at w5 C5
  have hcs2 : cs = #[.int .i64 f.1, .int .i64 f.2.1, .bool f.2.2.1, v4, .slice A5 f.2.2.2.2.length c5] := by
    apply Array.toList_inj.1
    rw [e1, e2, e3, e4, e5, h1, h2, (h3 : v3 = _), w5]
  subst hcs2
  subst hy
  have := tries_any w R (toFn f) v4 A5 c5 (by simpa [toFn] using C5) hj (by simpa [toFn] using hn)
  simp only [toFn, List.length_map] at this
  refine this.mono fun e w' ⟨vo, vs, he, ⟨o1, o2⟩, hb⟩ => ⟨_, he, hb, _, rfl, .cons o1 (.cons o2 (.cons rfl .nil))⟩
end Go.Proofs.YtefkifdhjabdiaaDoor
