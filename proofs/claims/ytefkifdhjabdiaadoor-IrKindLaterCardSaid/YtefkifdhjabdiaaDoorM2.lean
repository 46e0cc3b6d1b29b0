/- What the laws' texts lean on, part 3: lemmas and the contracts of functions. No condition. -/
import Derived.Test.YtefkifdhjabdiaaDoorM1
import Derived.Shelf.Abstract
import Derived.Deep.RegionHeld3
import Derived.Laws.Tables
namespace Go.Proofs.YtefkifdhjabdiaaDoor
set_option linter.unusedVariables false
set_option linter.unusedSimpArgs false
open Go.RowKit

/-- The first place where it holds, or -1. -/
def idxF {α : Type} (p : α → Bool) (xs : List α) : Int := match xs.findIdx? p with | some i => (i : Int) | none => -1
theorem idxF_at {α : Type} (p : α → Bool) (xs : List α) (i : Nat) (hl : ∀ x ∈ xs.take i, p x = false) (x : α) (hx : xs[i]? = some x) (hp : p x = true) : idxF p xs = (i : Int) := by
  have : xs.findIdx? p = some i := by
    rw [List.findIdx?_eq_some_iff_getElem]
    obtain ⟨hi, e⟩ := List.getElem?_eq_some_iff.1 hx
    refine ⟨hi, by rw [e]; exact hp, fun j hj => ?_⟩
    have := hl xs[j] (by rw [List.mem_take_iff_getElem]; exact ⟨j, by omega, rfl⟩)
    simp [this]
  unfold idxF
  rw [this]
theorem idxF_none {α : Type} (p : α → Bool) (xs : List α) (hl : ∀ x ∈ xs, p x = false) : idxF p xs = -1 := by
  have : xs.findIdx? p = none := by
    rw [List.findIdx?_eq_none_iff]
    exact hl
  unfold idxF
  rw [this]
theorem idxF_ge {α : Type} (p : α → Bool) (xs : List α) : decide (0 ≤ idxF p xs) = xs.any p := by
  unfold idxF
  cases h : xs.findIdx? p with
  | none => rw [List.findIdx?_eq_none_iff] at h; simp; exact h
  | some i =>
    obtain ⟨hi, h1, _⟩ := List.findIdx?_eq_some_iff_getElem.1 h
    have : xs.any p = true := List.any_eq_true.2 ⟨_, List.getElem_mem hi, h1⟩
    rw [this]
    simp
theorem idxF_range {α : Type} (p : α → Bool) (xs : List α) : -1 ≤ idxF p xs ∧ idxF p xs ≤ xs.length := by
  unfold idxF
  cases h : xs.findIdx? p with
  | none => simp
  | some i =>
    obtain ⟨hi, h1, _⟩ := List.findIdx?_eq_some_iff_getElem.1 h
    simp; omega

set_option maxRecDepth 100000 in
set_option maxHeartbeats 4000000 in
theorem indexStr (ok : Nat → Prop) (g : Nat) (caps : Array Value) (p : ByteArray → Bool) (w : World) (A : Option Addr) (n c : Nat) (xs : List ByteArray) (hC : Rd.str.C ok w A n xs)
    (hg : ∀ args w, (callFunc g args).run Tryd.prog w = .ok (.enter g args) w)
    (H : ∀ x ∈ xs, ∀ w', Below w.heap.size w w' → (x.size ≤ 9223372036854775807) → Calls Tryd.prog g (#[.string x] ++ caps) w' fun e w'' => e = .returned (.bool (p x)) ∧ Below w'.heap.size w' w'') :
    Calls Tryd.prog 141 #[.slice A n c, .func (.func g) #[] caps] w fun e w' => e = .returned (.int .i64 (idxF p xs)) ∧ Below w.heap.size w w' := by
  have hn := hC.1
  have hn2 := hC.2.1
  have HC := Lib.hid hC
  have Hn := Lib.hid hn
  have HH := Lib.hid H
  have HG := Lib.hid hg
  clear hC hn H hg
  go_enter Tryd.func141, Tryd.ntmps141
  go_wp2_with fail
  go_loopw [8] (fun I w1 => ∃ i : Nat, I = .int .i64 (i : Int) ∧ i ≤ n ∧ (∀ x ∈ xs.take i, p x = false) ∧ Hid (Below w.heap.size w w1)) (fun i _ => n - (intOf i).toNat)
  case atStart => exact ⟨0, rfl, Nat.zero_le _, by simp, Lib.hid (Below.refl _ _)⟩
  case round =>
    obtain ⟨i, rfl, hi, ht, HB⟩ := hrel
    have HT := Lib.hid ht
    clear ht
    by_cases hlt : i < n
    · obtain ⟨x, hx⟩ : ∃ x, xs[i]? = some x := ⟨_, List.getElem?_eq_getElem (by rw [Hn.out]; exact hlt)⟩
      obtain ⟨ad, cs, rfl, _, hsz, ⟨rfl, hxi⟩, hc0, hcj⟩ := (HC.out.move (fun k _ hk => HB.out.block k hk)).elem i _ hx
      have e0 : wr.cell? (ad.add i) = some (.string x) := by have := hc0 _ rfl; simpa [Rd.str] using this
      have K0 := HH.out x (List.mem_of_getElem? hx) wr HB.out hxi
      have K := Lib.hid K0
      have HX := Lib.hid hx
      clear hc0 hcj hx K0
      cases hp : p x with
      | true =>
        have HR := Lib.hid (idxF_at p xs i HT.out x HX.out hp)
        go_wp2_with fail
        rw [HG.out, Oper.upon_enter]
        refine (K.out).mono ?_
        rintro e w1 ⟨rfl, h1⟩
        rw [hp]
        have HB1 := Lib.hid (HB.out.trans (h1.mono HB.out.size))
        clear h1
        go_wp2_with fail
        go_ret
        exact ⟨by rw [HR.out]; first | done | rfl, HB1.out⟩
      | false =>
        go_wp2_with fail
        rw [HG.out, Oper.upon_enter]
        refine (K.out).mono ?_
        rintro e w1 ⟨rfl, h1⟩
        rw [hp]
        have HB1 := Lib.hid (HB.out.trans (h1.mono HB.out.size))
        clear h1
        go_wp2_with fail
        go_roundw
        case rel =>
          refine ⟨i + 1, by go_num, hlt, fun y hy => ?_, HB1⟩
          rw [List.take_add_one, HX.out, List.mem_append] at hy
          rcases hy with hy | hy
          · exact HT.out y hy
          · simp at hy; rw [hy]; exact hp
        case measure => simp [intOf]; omega
    · go_wp2
      go_ret
      exact ⟨by rw [idxF_none p xs (fun x hx => HT.out x (by rwa [List.take_of_length_le (by rw [Hn.out]; omega)]))]; first | done | rfl, HB.out⟩

set_option maxRecDepth 100000 in
theorem containsStr (ok : Nat → Prop) (g : Nat) (caps : Array Value) (p : ByteArray → Bool) (w : World) (A : Option Addr) (n c : Nat) (xs : List ByteArray) (hC : Rd.str.C ok w A n xs)
    (hg : ∀ args w, (callFunc g args).run Tryd.prog w = .ok (.enter g args) w)
    (H : ∀ x ∈ xs, ∀ w', Below w.heap.size w w' → (x.size ≤ 9223372036854775807) → Calls Tryd.prog g (#[.string x] ++ caps) w' fun e w'' => e = .returned (.bool (p x)) ∧ Below w'.heap.size w' w'') :
    Calls Tryd.prog 113 #[.slice A n c, .func (.func g) #[] caps] w fun e w' => e = .returned (.bool (xs.any p)) ∧ Below w.heap.size w w' := by
  have K := Lib.hid (indexStr ok g caps p w A n c xs hC hg H)
  have R := Lib.hid (idxF_ge p xs)
  clear hC H hg
  obtain ⟨r, hr⟩ : ∃ r, r = idxF p xs := ⟨_, rfl⟩
  rw [← hr] at K R
  clear hr
  rw [← R.out]
  by_cases h0 : 0 ≤ r
  · have hd : decide (0 ≤ r) = true := by simpa using h0
    rw [hd]
    clear hd R
    go_enter Tryd.func113, Tryd.ntmps113
    go_wp2_with fail
    refine (K.out).mono ?_
    rintro e w1 ⟨rfl, h1⟩
    have H1 := Lib.hid h1
    clear h1 K
    go_wp2_with fail
    go_ret
    exact ⟨by simp [h0], H1.out⟩
  · have hd : decide (0 ≤ r) = false := by simpa using h0
    rw [hd]
    clear hd R
    go_enter Tryd.func113, Tryd.ntmps113
    go_wp2_with fail
    refine (K.out).mono ?_
    rintro e w1 ⟨rfl, h1⟩
    have H1 := Lib.hid h1
    clear h1 K
    go_wp2_with fail
    go_ret
    exact ⟨by simp [h0], H1.out⟩

set_option maxRecDepth 100000 in
set_option maxHeartbeats 4000000 in
theorem indexInt (ok : Nat → Prop) (g : Nat) (caps : Array Value) (p : Int → Bool) (w : World) (A : Option Addr) (n c : Nat) (xs : List Int) (hC : Rd.int.C ok w A n xs)
    (hg : ∀ args w, (callFunc g args).run Tryd.prog w = .ok (.enter g args) w)
    (H : ∀ x ∈ xs, ∀ w', Below w.heap.size w w' → (Rd.IsInt x) → Calls Tryd.prog g (#[.int .i64 x] ++ caps) w' fun e w'' => e = .returned (.bool (p x)) ∧ Below w'.heap.size w' w'') :
    Calls Tryd.prog 93 #[.slice A n c, .func (.func g) #[] caps] w fun e w' => e = .returned (.int .i64 (idxF p xs)) ∧ Below w.heap.size w w' := by
  have hn := hC.1
  have hn2 := hC.2.1
  have HC := Lib.hid hC
  have Hn := Lib.hid hn
  have HH := Lib.hid H
  have HG := Lib.hid hg
  clear hC hn H hg
  go_enter Tryd.func93, Tryd.ntmps93
  go_wp2_with fail
  go_loopw [8] (fun I w1 => ∃ i : Nat, I = .int .i64 (i : Int) ∧ i ≤ n ∧ (∀ x ∈ xs.take i, p x = false) ∧ Hid (Below w.heap.size w w1)) (fun i _ => n - (intOf i).toNat)
  case atStart => exact ⟨0, rfl, Nat.zero_le _, by simp, Lib.hid (Below.refl _ _)⟩
  case round =>
    obtain ⟨i, rfl, hi, ht, HB⟩ := hrel
    have HT := Lib.hid ht
    clear ht
    by_cases hlt : i < n
    · obtain ⟨x, hx⟩ : ∃ x, xs[i]? = some x := ⟨_, List.getElem?_eq_getElem (by rw [Hn.out]; exact hlt)⟩
      obtain ⟨ad, cs, rfl, _, hsz, ⟨rfl, hxi⟩, hc0, hcj⟩ := (HC.out.move (fun k _ hk => HB.out.block k hk)).elem i _ hx
      have e0 : wr.cell? (ad.add i) = some (.int .i64 x) := by have := hc0 _ rfl; simpa [Rd.int] using this
      have K0 := HH.out x (List.mem_of_getElem? hx) wr HB.out hxi
      have K := Lib.hid K0
      have HX := Lib.hid hx
      clear hc0 hcj hx K0
      cases hp : p x with
      | true =>
        have HR := Lib.hid (idxF_at p xs i HT.out x HX.out hp)
        go_wp2_with fail
        rw [HG.out, Oper.upon_enter]
        refine (K.out).mono ?_
        rintro e w1 ⟨rfl, h1⟩
        rw [hp]
        have HB1 := Lib.hid (HB.out.trans (h1.mono HB.out.size))
        clear h1
        go_wp2_with fail
        go_ret
        exact ⟨by rw [HR.out]; first | done | rfl, HB1.out⟩
      | false =>
        go_wp2_with fail
        rw [HG.out, Oper.upon_enter]
        refine (K.out).mono ?_
        rintro e w1 ⟨rfl, h1⟩
        rw [hp]
        have HB1 := Lib.hid (HB.out.trans (h1.mono HB.out.size))
        clear h1
        go_wp2_with fail
        go_roundw
        case rel =>
          refine ⟨i + 1, by go_num, hlt, fun y hy => ?_, HB1⟩
          rw [List.take_add_one, HX.out, List.mem_append] at hy
          rcases hy with hy | hy
          · exact HT.out y hy
          · simp at hy; rw [hy]; exact hp
        case measure => simp [intOf]; omega
    · go_wp2
      go_ret
      exact ⟨by rw [idxF_none p xs (fun x hx => HT.out x (by rwa [List.take_of_length_le (by rw [Hn.out]; omega)]))]; first | done | rfl, HB.out⟩

set_option maxRecDepth 100000 in
theorem containsInt (ok : Nat → Prop) (g : Nat) (caps : Array Value) (p : Int → Bool) (w : World) (A : Option Addr) (n c : Nat) (xs : List Int) (hC : Rd.int.C ok w A n xs)
    (hg : ∀ args w, (callFunc g args).run Tryd.prog w = .ok (.enter g args) w)
    (H : ∀ x ∈ xs, ∀ w', Below w.heap.size w w' → (Rd.IsInt x) → Calls Tryd.prog g (#[.int .i64 x] ++ caps) w' fun e w'' => e = .returned (.bool (p x)) ∧ Below w'.heap.size w' w'') :
    Calls Tryd.prog 56 #[.slice A n c, .func (.func g) #[] caps] w fun e w' => e = .returned (.bool (xs.any p)) ∧ Below w.heap.size w w' := by
  have K := Lib.hid (indexInt ok g caps p w A n c xs hC hg H)
  have R := Lib.hid (idxF_ge p xs)
  clear hC H hg
  obtain ⟨r, hr⟩ : ∃ r, r = idxF p xs := ⟨_, rfl⟩
  rw [← hr] at K R
  clear hr
  rw [← R.out]
  by_cases h0 : 0 ≤ r
  · have hd : decide (0 ≤ r) = true := by simpa using h0
    rw [hd]
    clear hd R
    go_enter Tryd.func56, Tryd.ntmps56
    go_wp2_with fail
    refine (K.out).mono ?_
    rintro e w1 ⟨rfl, h1⟩
    have H1 := Lib.hid h1
    clear h1 K
    go_wp2_with fail
    go_ret
    exact ⟨by simp [h0], H1.out⟩
  · have hd : decide (0 ≤ r) = false := by simpa using h0
    rw [hd]
    clear hd R
    go_enter Tryd.func56, Tryd.ntmps56
    go_wp2_with fail
    refine (K.out).mono ?_
    rintro e w1 ⟨rfl, h1⟩
    have H1 := Lib.hid h1
    clear h1 K
    go_wp2_with fail
    go_ret
    exact ⟨by simp [h0], H1.out⟩

set_option maxRecDepth 100000 in
set_option maxHeartbeats 4000000 in
theorem indexVal (ok : Nat → Prop) (g : Nat) (caps : Array Value) (p : Val → Bool) (w : World) (A : Option Addr) (n c : Nat) (xs : List Val) (hC : rdVal.C ok w A n xs)
    (hg : ∀ args w, (callFunc g args).run Tryd.prog w = .ok (.enter g args) w)
    (H : ∀ x ∈ xs, ∀ w', Below w.heap.size w w' → (Rd.IsInt x.kind ∧ Rd.IsInt x.n) → Calls Tryd.prog g (#[.agg x.cells] ++ caps) w' fun e w'' => e = .returned (.bool (p x)) ∧ Below w'.heap.size w' w'') :
    Calls Tryd.prog 143 #[.slice A n c, .func (.func g) #[] caps] w fun e w' => e = .returned (.int .i64 (idxF p xs)) ∧ Below w.heap.size w w' := by
  have hn := hC.1
  have hn2 := hC.2.1
  have HC := Lib.hid hC
  have Hn := Lib.hid hn
  have HH := Lib.hid H
  have HG := Lib.hid hg
  clear hC hn H hg
  go_enter Tryd.func143, Tryd.ntmps143
  go_wp2_with fail
  go_loopw [8] (fun I w1 => ∃ i : Nat, I = .int .i64 (i : Int) ∧ i ≤ n ∧ (∀ x ∈ xs.take i, p x = false) ∧ Hid (Below w.heap.size w w1)) (fun i _ => n - (intOf i).toNat)
  case atStart => exact ⟨0, rfl, Nat.zero_le _, by simp, Lib.hid (Below.refl _ _)⟩
  case round =>
    obtain ⟨i, rfl, hi, ht, HB⟩ := hrel
    have HT := Lib.hid ht
    clear ht
    by_cases hlt : i < n
    · obtain ⟨x, hx⟩ : ∃ x, xs[i]? = some x := ⟨_, List.getElem?_eq_getElem (by rw [Hn.out]; exact hlt)⟩
      obtain ⟨ad, cs, rfl, _, hsz, ⟨rfl, hxi⟩, hc0, hcj⟩ := (HC.out.move (fun k _ hk => HB.out.block k hk)).elem i _ hx
      have e0 : wr.cell? (ad.add (i * 2)) = some (.int .i64 x.kind) := hc0 _ rfl
      have e1 : wr.cell? ⟨(ad.add (i * 2)).block, (ad.add (i * 2)).off + 1, none⟩ = some (.int .i64 x.n) := hcj 0 _ rfl
      have K0 := HH.out x (List.mem_of_getElem? hx) wr HB.out hxi
      have K := Lib.hid K0
      have HX := Lib.hid hx
      clear hc0 hcj hx K0
      cases hp : p x with
      | true =>
        have HR := Lib.hid (idxF_at p xs i HT.out x HX.out hp)
        go_wp2_with fail
        rw [HG.out, Oper.upon_enter]
        refine (K.out).mono ?_
        rintro e w1 ⟨rfl, h1⟩
        rw [hp]
        have HB1 := Lib.hid (HB.out.trans (h1.mono HB.out.size))
        clear h1
        go_wp2_with fail
        go_ret
        exact ⟨by rw [HR.out]; first | done | rfl, HB1.out⟩
      | false =>
        go_wp2_with fail
        rw [HG.out, Oper.upon_enter]
        refine (K.out).mono ?_
        rintro e w1 ⟨rfl, h1⟩
        rw [hp]
        have HB1 := Lib.hid (HB.out.trans (h1.mono HB.out.size))
        clear h1
        go_wp2_with fail
        go_roundw
        case rel =>
          refine ⟨i + 1, by go_num, hlt, fun y hy => ?_, HB1⟩
          rw [List.take_add_one, HX.out, List.mem_append] at hy
          rcases hy with hy | hy
          · exact HT.out y hy
          · simp at hy; rw [hy]; exact hp
        case measure => simp [intOf]; omega
    · go_wp2
      go_ret
      exact ⟨by rw [idxF_none p xs (fun x hx => HT.out x (by rwa [List.take_of_length_le (by rw [Hn.out]; omega)]))]; first | done | rfl, HB.out⟩

set_option maxRecDepth 100000 in
theorem containsVal (ok : Nat → Prop) (g : Nat) (caps : Array Value) (p : Val → Bool) (w : World) (A : Option Addr) (n c : Nat) (xs : List Val) (hC : rdVal.C ok w A n xs)
    (hg : ∀ args w, (callFunc g args).run Tryd.prog w = .ok (.enter g args) w)
    (H : ∀ x ∈ xs, ∀ w', Below w.heap.size w w' → (Rd.IsInt x.kind ∧ Rd.IsInt x.n) → Calls Tryd.prog g (#[.agg x.cells] ++ caps) w' fun e w'' => e = .returned (.bool (p x)) ∧ Below w'.heap.size w' w'') :
    Calls Tryd.prog 118 #[.slice A n c, .func (.func g) #[] caps] w fun e w' => e = .returned (.bool (xs.any p)) ∧ Below w.heap.size w w' := by
  have K := Lib.hid (indexVal ok g caps p w A n c xs hC hg H)
  have R := Lib.hid (idxF_ge p xs)
  clear hC H hg
  obtain ⟨r, hr⟩ : ∃ r, r = idxF p xs := ⟨_, rfl⟩
  rw [← hr] at K R
  clear hr
  rw [← R.out]
  by_cases h0 : 0 ≤ r
  · have hd : decide (0 ≤ r) = true := by simpa using h0
    rw [hd]
    clear hd R
    go_enter Tryd.func118, Tryd.ntmps118
    go_wp2_with fail
    refine (K.out).mono ?_
    rintro e w1 ⟨rfl, h1⟩
    have H1 := Lib.hid h1
    clear h1 K
    go_wp2_with fail
    go_ret
    exact ⟨by simp [h0], H1.out⟩
  · have hd : decide (0 ≤ r) = false := by simpa using h0
    rw [hd]
    clear hd R
    go_enter Tryd.func118, Tryd.ntmps118
    go_wp2_with fail
    refine (K.out).mono ?_
    rintro e w1 ⟨rfl, h1⟩
    have H1 := Lib.hid h1
    clear h1 K
    go_wp2_with fail
    go_ret
    exact ⟨by simp [h0], H1.out⟩

set_option maxRecDepth 100000 in
set_option maxHeartbeats 4000000 in
theorem indexSet (ok : Nat → Prop) (g : Nat) (caps : Array Value) (p : TSet → Bool) (w : World) (A : Option Addr) (n c : Nat) (xs : List TSet) (hC : rdSet.C ok w A n xs)
    (hg : ∀ args w, (callFunc g args).run Tryd.prog w = .ok (.enter g args) w)
    (H : ∀ x ∈ xs, ∀ w', Below w.heap.size w w' → (Rd.IsInt x.reg ∧ Rd.IsInt x.val) → Calls Tryd.prog g (#[.agg x.cells] ++ caps) w' fun e w'' => e = .returned (.bool (p x)) ∧ Below w'.heap.size w' w'') :
    Calls Tryd.prog 123 #[.slice A n c, .func (.func g) #[] caps] w fun e w' => e = .returned (.int .i64 (idxF p xs)) ∧ Below w.heap.size w w' := by
  have hn := hC.1
  have hn2 := hC.2.1
  have HC := Lib.hid hC
  have Hn := Lib.hid hn
  have HH := Lib.hid H
  have HG := Lib.hid hg
  clear hC hn H hg
  go_enter Tryd.func123, Tryd.ntmps123
  go_wp2_with fail
  go_loopw [8] (fun I w1 => ∃ i : Nat, I = .int .i64 (i : Int) ∧ i ≤ n ∧ (∀ x ∈ xs.take i, p x = false) ∧ Hid (Below w.heap.size w w1)) (fun i _ => n - (intOf i).toNat)
  case atStart => exact ⟨0, rfl, Nat.zero_le _, by simp, Lib.hid (Below.refl _ _)⟩
  case round =>
    obtain ⟨i, rfl, hi, ht, HB⟩ := hrel
    have HT := Lib.hid ht
    clear ht
    by_cases hlt : i < n
    · obtain ⟨x, hx⟩ : ∃ x, xs[i]? = some x := ⟨_, List.getElem?_eq_getElem (by rw [Hn.out]; exact hlt)⟩
      obtain ⟨ad, cs, rfl, _, hsz, ⟨rfl, hxi⟩, hc0, hcj⟩ := (HC.out.move (fun k _ hk => HB.out.block k hk)).elem i _ hx
      have e0 : wr.cell? (ad.add (i * 2)) = some (.int .i64 x.reg) := hc0 _ rfl
      have e1 : wr.cell? ⟨(ad.add (i * 2)).block, (ad.add (i * 2)).off + 1, none⟩ = some (.int .i64 x.val) := hcj 0 _ rfl
      have K0 := HH.out x (List.mem_of_getElem? hx) wr HB.out hxi
      have K := Lib.hid K0
      have HX := Lib.hid hx
      clear hc0 hcj hx K0
      cases hp : p x with
      | true =>
        have HR := Lib.hid (idxF_at p xs i HT.out x HX.out hp)
        go_wp2_with fail
        rw [HG.out, Oper.upon_enter]
        refine (K.out).mono ?_
        rintro e w1 ⟨rfl, h1⟩
        rw [hp]
        have HB1 := Lib.hid (HB.out.trans (h1.mono HB.out.size))
        clear h1
        go_wp2_with fail
        go_ret
        exact ⟨by rw [HR.out]; first | done | rfl, HB1.out⟩
      | false =>
        go_wp2_with fail
        rw [HG.out, Oper.upon_enter]
        refine (K.out).mono ?_
        rintro e w1 ⟨rfl, h1⟩
        rw [hp]
        have HB1 := Lib.hid (HB.out.trans (h1.mono HB.out.size))
        clear h1
        go_wp2_with fail
        go_roundw
        case rel =>
          refine ⟨i + 1, by go_num, hlt, fun y hy => ?_, HB1⟩
          rw [List.take_add_one, HX.out, List.mem_append] at hy
          rcases hy with hy | hy
          · exact HT.out y hy
          · simp at hy; rw [hy]; exact hp
        case measure => simp [intOf]; omega
    · go_wp2
      go_ret
      exact ⟨by rw [idxF_none p xs (fun x hx => HT.out x (by rwa [List.take_of_length_le (by rw [Hn.out]; omega)]))]; first | done | rfl, HB.out⟩

set_option maxRecDepth 100000 in
theorem containsSet (ok : Nat → Prop) (g : Nat) (caps : Array Value) (p : TSet → Bool) (w : World) (A : Option Addr) (n c : Nat) (xs : List TSet) (hC : rdSet.C ok w A n xs)
    (hg : ∀ args w, (callFunc g args).run Tryd.prog w = .ok (.enter g args) w)
    (H : ∀ x ∈ xs, ∀ w', Below w.heap.size w w' → (Rd.IsInt x.reg ∧ Rd.IsInt x.val) → Calls Tryd.prog g (#[.agg x.cells] ++ caps) w' fun e w'' => e = .returned (.bool (p x)) ∧ Below w'.heap.size w' w'') :
    Calls Tryd.prog 90 #[.slice A n c, .func (.func g) #[] caps] w fun e w' => e = .returned (.bool (xs.any p)) ∧ Below w.heap.size w w' := by
  have K := Lib.hid (indexSet ok g caps p w A n c xs hC hg H)
  have R := Lib.hid (idxF_ge p xs)
  clear hC H hg
  obtain ⟨r, hr⟩ : ∃ r, r = idxF p xs := ⟨_, rfl⟩
  rw [← hr] at K R
  clear hr
  rw [← R.out]
  by_cases h0 : 0 ≤ r
  · have hd : decide (0 ≤ r) = true := by simpa using h0
    rw [hd]
    clear hd R
    go_enter Tryd.func90, Tryd.ntmps90
    go_wp2_with fail
    refine (K.out).mono ?_
    rintro e w1 ⟨rfl, h1⟩
    have H1 := Lib.hid h1
    clear h1 K
    go_wp2_with fail
    go_ret
    exact ⟨by simp [h0], H1.out⟩
  · have hd : decide (0 ≤ r) = false := by simpa using h0
    rw [hd]
    clear hd R
    go_enter Tryd.func90, Tryd.ntmps90
    go_wp2_with fail
    refine (K.out).mono ?_
    rintro e w1 ⟨rfl, h1⟩
    have H1 := Lib.hid h1
    clear h1 K
    go_wp2_with fail
    go_ret
    exact ⟨by simp [h0], H1.out⟩

set_option maxRecDepth 100000 in
set_option maxHeartbeats 4000000 in
theorem indexIns (ok : Nat → Prop) (g : Nat) (caps : Array Value) (p : Ins → Bool) (w : World) (A : Option Addr) (n c : Nat) (xs : List Ins) (hC : rdIns.C ok w A n xs)
    (hg : ∀ args w, (callFunc g args).run Tryd.prog w = .ok (.enter g args) w)
    (H : ∀ x ∈ xs, ∀ w', Below w.heap.size w w' → (x.Ok) → Calls Tryd.prog g (#[.agg x.cells] ++ caps) w' fun e w'' => e = .returned (.bool (p x)) ∧ Below w'.heap.size w' w'') :
    Calls Tryd.prog 151 #[.slice A n c, .func (.func g) #[] caps] w fun e w' => e = .returned (.int .i64 (idxF p xs)) ∧ Below w.heap.size w w' := by
  have hn := hC.1
  have hn2 := hC.2.1
  have HC := Lib.hid hC
  have Hn := Lib.hid hn
  have HH := Lib.hid H
  have HG := Lib.hid hg
  clear hC hn H hg
  go_enter Tryd.func151, Tryd.ntmps151
  go_wp2_with fail
  go_loopw [8] (fun I w1 => ∃ i : Nat, I = .int .i64 (i : Int) ∧ i ≤ n ∧ (∀ x ∈ xs.take i, p x = false) ∧ Hid (Below w.heap.size w w1)) (fun i _ => n - (intOf i).toNat)
  case atStart => exact ⟨0, rfl, Nat.zero_le _, by simp, Lib.hid (Below.refl _ _)⟩
  case round =>
    obtain ⟨i, rfl, hi, ht, HB⟩ := hrel
    have HT := Lib.hid ht
    clear ht
    by_cases hlt : i < n
    · obtain ⟨x, hx⟩ : ∃ x, xs[i]? = some x := ⟨_, List.getElem?_eq_getElem (by rw [Hn.out]; exact hlt)⟩
      obtain ⟨ad, cs, rfl, _, hsz, ⟨rfl, hxi⟩, hc0, hcj⟩ := (HC.out.move (fun k _ hk => HB.out.block k hk)).elem i _ hx
      have e0 : wr.cell? (ad.add (i * 8)) = some (.int .i64 x.op) := hc0 _ rfl
      have e1 : wr.cell? ⟨(ad.add (i * 8)).block, (ad.add (i * 8)).off + 1, none⟩ = some (.int .i64 x.a) := hcj 0 _ rfl
      have e2 : wr.cell? ⟨(ad.add (i * 8)).block, (ad.add (i * 8)).off + 2, none⟩ = some (.int .i64 x.b) := hcj 1 _ rfl
      have e3 : wr.cell? ⟨(ad.add (i * 8)).block, (ad.add (i * 8)).off + 3, none⟩ = some (.int .i64 x.c) := hcj 2 _ rfl
      have e4 : wr.cell? ⟨(ad.add (i * 8)).block, (ad.add (i * 8)).off + 4, none⟩ = some (.int .i64 x.n) := hcj 3 _ rfl
      have e5 : wr.cell? ⟨(ad.add (i * 8)).block, (ad.add (i * 8)).off + 5, none⟩ = some (.int .i64 x.x) := hcj 4 _ rfl
      have e6 : wr.cell? ⟨(ad.add (i * 8)).block, (ad.add (i * 8)).off + 6, none⟩ = some (.int .i64 x.kk) := hcj 5 _ rfl
      have e7 : wr.cell? ⟨(ad.add (i * 8)).block, (ad.add (i * 8)).off + 7, none⟩ = some (.int .i64 x.kn) := hcj 6 _ rfl
      have K0 := HH.out x (List.mem_of_getElem? hx) wr HB.out hxi
      have K := Lib.hid K0
      have HX := Lib.hid hx
      clear hc0 hcj hx K0
      cases hp : p x with
      | true =>
        have HR := Lib.hid (idxF_at p xs i HT.out x HX.out hp)
        go_wp2_with fail
        rw [HG.out, Oper.upon_enter]
        refine (K.out).mono ?_
        rintro e w1 ⟨rfl, h1⟩
        rw [hp]
        have HB1 := Lib.hid (HB.out.trans (h1.mono HB.out.size))
        clear h1
        go_wp2_with fail
        go_ret
        exact ⟨by rw [HR.out]; first | done | rfl, HB1.out⟩
      | false =>
        go_wp2_with fail
        rw [HG.out, Oper.upon_enter]
        refine (K.out).mono ?_
        rintro e w1 ⟨rfl, h1⟩
        rw [hp]
        have HB1 := Lib.hid (HB.out.trans (h1.mono HB.out.size))
        clear h1
        go_wp2_with fail
        go_roundw
        case rel =>
          refine ⟨i + 1, by go_num, hlt, fun y hy => ?_, HB1⟩
          rw [List.take_add_one, HX.out, List.mem_append] at hy
          rcases hy with hy | hy
          · exact HT.out y hy
          · simp at hy; rw [hy]; exact hp
        case measure => simp [intOf]; omega
    · go_wp2
      go_ret
      exact ⟨by rw [idxF_none p xs (fun x hx => HT.out x (by rwa [List.take_of_length_le (by rw [Hn.out]; omega)]))]; first | done | rfl, HB.out⟩

set_option maxRecDepth 100000 in
theorem containsIns (ok : Nat → Prop) (g : Nat) (caps : Array Value) (p : Ins → Bool) (w : World) (A : Option Addr) (n c : Nat) (xs : List Ins) (hC : rdIns.C ok w A n xs)
    (hg : ∀ args w, (callFunc g args).run Tryd.prog w = .ok (.enter g args) w)
    (H : ∀ x ∈ xs, ∀ w', Below w.heap.size w w' → (x.Ok) → Calls Tryd.prog g (#[.agg x.cells] ++ caps) w' fun e w'' => e = .returned (.bool (p x)) ∧ Below w'.heap.size w' w'') :
    Calls Tryd.prog 124 #[.slice A n c, .func (.func g) #[] caps] w fun e w' => e = .returned (.bool (xs.any p)) ∧ Below w.heap.size w w' := by
  have K := Lib.hid (indexIns ok g caps p w A n c xs hC hg H)
  have R := Lib.hid (idxF_ge p xs)
  clear hC H hg
  obtain ⟨r, hr⟩ : ∃ r, r = idxF p xs := ⟨_, rfl⟩
  rw [← hr] at K R
  clear hr
  rw [← R.out]
  by_cases h0 : 0 ≤ r
  · have hd : decide (0 ≤ r) = true := by simpa using h0
    rw [hd]
    clear hd R
    go_enter Tryd.func124, Tryd.ntmps124
    go_wp2_with fail
    refine (K.out).mono ?_
    rintro e w1 ⟨rfl, h1⟩
    have H1 := Lib.hid h1
    clear h1 K
    go_wp2_with fail
    go_ret
    exact ⟨by simp [h0], H1.out⟩
  · have hd : decide (0 ≤ r) = false := by simpa using h0
    rw [hd]
    clear hd R
    go_enter Tryd.func124, Tryd.ntmps124
    go_wp2_with fail
    refine (K.out).mono ?_
    rintro e w1 ⟨rfl, h1⟩
    have H1 := Lib.hid h1
    clear h1 K
    go_wp2_with fail
    go_ret
    exact ⟨by simp [h0], H1.out⟩

set_option maxRecDepth 100000 in
set_option maxHeartbeats 4000000 in
theorem indexFn (ok : Nat → Prop) (g : Nat) (caps : Array Value) (p : Fn → Bool) (w : World) (A : Option Addr) (n c : Nat) (xs : List Fn) (hC : rdFn.C ok w A n xs)
    (hg : ∀ args w, (callFunc g args).run Tryd.prog w = .ok (.enter g args) w)
    (H : ∀ x ∈ xs, ∀ w', Below w.heap.size w w' → ∀ v1 v2, SlK Rd.int ok w' x.caught v1 → SlK rdOrd ok w' x.code v2 → (Rd.IsInt x.params ∧ Rd.IsInt x.regs) → Calls Tryd.prog g (#[.agg #[.int .i64 x.params, .int .i64 x.regs, .bool x.gen, v1, v2]] ++ caps) w' fun e w'' => e = .returned (.bool (p x)) ∧ Below w'.heap.size w' w'') :
    Calls Tryd.prog 120 #[.slice A n c, .func (.func g) #[] caps] w fun e w' => e = .returned (.int .i64 (idxF p xs)) ∧ Below w.heap.size w w' := by
  have hn := hC.1
  have hn2 := hC.2.1
  have HC := Lib.hid hC
  have Hn := Lib.hid hn
  have HH := Lib.hid H
  have HG := Lib.hid hg
  clear hC hn H hg
  go_enter Tryd.func120, Tryd.ntmps120
  go_wp2_with fail
  go_loopw [8] (fun I w1 => ∃ i : Nat, I = .int .i64 (i : Int) ∧ i ≤ n ∧ (∀ x ∈ xs.take i, p x = false) ∧ Hid (Below w.heap.size w w1)) (fun i _ => n - (intOf i).toNat)
  case atStart => exact ⟨0, rfl, Nat.zero_le _, by simp, Lib.hid (Below.refl _ _)⟩
  case round =>
    obtain ⟨i, rfl, hi, ht, HB⟩ := hrel
    have HT := Lib.hid ht
    clear ht
    by_cases hlt : i < n
    · obtain ⟨x, hx⟩ : ∃ x, xs[i]? = some x := ⟨_, List.getElem?_eq_getElem (by rw [Hn.out]; exact hlt)⟩
      obtain ⟨ad, cs, rfl, _, hsz, ⟨v1, v2, rfl, hxi, hv1, hv2⟩, hc0, hcj⟩ := (HC.out.move (fun k _ hk => HB.out.block k hk)).elem i _ hx
      have e0 : wr.cell? (ad.add (i * 5)) = some (.int .i64 x.params) := hc0 _ rfl
      have e1 : wr.cell? ⟨(ad.add (i * 5)).block, (ad.add (i * 5)).off + 1, none⟩ = some (.int .i64 x.regs) := hcj 0 _ rfl
      have e2 : wr.cell? ⟨(ad.add (i * 5)).block, (ad.add (i * 5)).off + 2, none⟩ = some (.bool x.gen) := hcj 1 _ rfl
      have e3 : wr.cell? ⟨(ad.add (i * 5)).block, (ad.add (i * 5)).off + 3, none⟩ = some (v1) := hcj 2 _ rfl
      have e4 : wr.cell? ⟨(ad.add (i * 5)).block, (ad.add (i * 5)).off + 4, none⟩ = some (v2) := hcj 3 _ rfl
      have K0 := HH.out x (List.mem_of_getElem? hx) wr HB.out v1 v2 hv1 hv2 hxi
      have K := Lib.hid K0
      have HX := Lib.hid hx
      clear hc0 hcj hx K0
      cases hp : p x with
      | true =>
        have HR := Lib.hid (idxF_at p xs i HT.out x HX.out hp)
        go_wp2_with fail
        rw [HG.out, Oper.upon_enter]
        refine (K.out).mono ?_
        rintro e w1 ⟨rfl, h1⟩
        rw [hp]
        have HB1 := Lib.hid (HB.out.trans (h1.mono HB.out.size))
        clear h1
        go_wp2_with fail
        go_ret
        exact ⟨by rw [HR.out]; first | done | rfl, HB1.out⟩
      | false =>
        go_wp2_with fail
        rw [HG.out, Oper.upon_enter]
        refine (K.out).mono ?_
        rintro e w1 ⟨rfl, h1⟩
        rw [hp]
        have HB1 := Lib.hid (HB.out.trans (h1.mono HB.out.size))
        clear h1
        go_wp2_with fail
        go_roundw
        case rel =>
          refine ⟨i + 1, by go_num, hlt, fun y hy => ?_, HB1⟩
          rw [List.take_add_one, HX.out, List.mem_append] at hy
          rcases hy with hy | hy
          · exact HT.out y hy
          · simp at hy; rw [hy]; exact hp
        case measure => simp [intOf]; omega
    · go_wp2
      go_ret
      exact ⟨by rw [idxF_none p xs (fun x hx => HT.out x (by rwa [List.take_of_length_le (by rw [Hn.out]; omega)]))]; first | done | rfl, HB.out⟩

set_option maxRecDepth 100000 in
theorem containsFn (ok : Nat → Prop) (g : Nat) (caps : Array Value) (p : Fn → Bool) (w : World) (A : Option Addr) (n c : Nat) (xs : List Fn) (hC : rdFn.C ok w A n xs)
    (hg : ∀ args w, (callFunc g args).run Tryd.prog w = .ok (.enter g args) w)
    (H : ∀ x ∈ xs, ∀ w', Below w.heap.size w w' → ∀ v1 v2, SlK Rd.int ok w' x.caught v1 → SlK rdOrd ok w' x.code v2 → (Rd.IsInt x.params ∧ Rd.IsInt x.regs) → Calls Tryd.prog g (#[.agg #[.int .i64 x.params, .int .i64 x.regs, .bool x.gen, v1, v2]] ++ caps) w' fun e w'' => e = .returned (.bool (p x)) ∧ Below w'.heap.size w' w'') :
    Calls Tryd.prog 81 #[.slice A n c, .func (.func g) #[] caps] w fun e w' => e = .returned (.bool (xs.any p)) ∧ Below w.heap.size w w' := by
  have K := Lib.hid (indexFn ok g caps p w A n c xs hC hg H)
  have R := Lib.hid (idxF_ge p xs)
  clear hC H hg
  obtain ⟨r, hr⟩ : ∃ r, r = idxF p xs := ⟨_, rfl⟩
  rw [← hr] at K R
  clear hr
  rw [← R.out]
  by_cases h0 : 0 ≤ r
  · have hd : decide (0 ≤ r) = true := by simpa using h0
    rw [hd]
    clear hd R
    go_enter Tryd.func81, Tryd.ntmps81
    go_wp2_with fail
    refine (K.out).mono ?_
    rintro e w1 ⟨rfl, h1⟩
    have H1 := Lib.hid h1
    clear h1 K
    go_wp2_with fail
    go_ret
    exact ⟨by simp [h0], H1.out⟩
  · have hd : decide (0 ≤ r) = false := by simpa using h0
    rw [hd]
    clear hd R
    go_enter Tryd.func81, Tryd.ntmps81
    go_wp2_with fail
    refine (K.out).mono ?_
    rintro e w1 ⟨rfl, h1⟩
    have H1 := Lib.hid h1
    clear h1 K
    go_wp2_with fail
    go_ret
    exact ⟨by simp [h0], H1.out⟩

end Go.Proofs.YtefkifdhjabdiaaDoor
namespace Go.Proofs.YtefkifdhjabdiaaDoor
set_option linter.unusedVariables false
set_option linter.unusedSimpArgs false
open Go.RowKit

def withinF (n lo hi : Int) : Bool := decide (lo ≤ n) && decide (n ≤ hi)

theorem within_any (n lo hi : Int) (w : World) : Calls Tryd.prog 145 #[.int .i64 n, .int .i64 lo, .int .i64 hi] w fun e w' => e = .returned (.bool (withinF n lo hi)) ∧ w = w' := by
  by_cases h1 : lo ≤ n
  · by_cases h2 : n ≤ hi
    · rw [show withinF n lo hi = true by simp [withinF, h1, h2]]
      go_enter Tryd.func145, Tryd.ntmps145
      go_wp2
      go_ret
      exact ⟨rfl, rfl⟩
    · rw [show withinF n lo hi = false by simp [withinF, h1, h2]]
      go_enter Tryd.func145, Tryd.ntmps145
      go_wp2
      go_ret
      exact ⟨rfl, rfl⟩
  · rw [show withinF n lo hi = false by simp [withinF, h1]]
    go_enter Tryd.func145, Tryd.ntmps145
    go_wp2
    go_ret
    exact ⟨rfl, rfl⟩

/-- The cells of a look. -/
abbrev lookCells (vf vc vt : Value) (params regs : Int) (gen : Bool) (vca vco : Value) : Array Value := #[vf, vc, vt, .int .i64 params, .int .i64 regs, .bool gen, vca, vco]
section
variable (vf vc vt : Value) (params regs : Int) (gen : Bool) (vca vco : Value)
theorem reg_any (n : Int) (w : World) (hr : Rd.IsInt regs) (hr0 : 0 ≤ regs) : Calls Tryd.prog 147 #[.agg (lookCells vf vc vt params regs gen vca vco), .int .i64 n] w fun e w' => e = .returned (.bool (withinF n 0 (regs - 1))) ∧ Below w.heap.size w w' := by
  obtain ⟨r1, r2⟩ := hr
  go_enter Tryd.func147, Tryd.ntmps147
  go_wp2_with fail
  refine (within_any _ _ _ _).mono ?_
  rintro e w1 ⟨rfl, rfl⟩
  go_wp2_with fail
  go_ret
  exact ⟨rfl, (Below.refl _ _).alloc (Nat.le_refl _) _⟩
theorem at_any (A : Option Addr) (m c : Nat) (n : Int) (w : World) (hm : m ≤ 9223372036854775807) : Calls Tryd.prog 162 #[.agg (lookCells vf vc vt params regs gen vca (.slice A m c)), .int .i64 n] w fun e w' => e = .returned (.bool (withinF n 0 ((m : Int) - 1))) ∧ Below w.heap.size w w' := by
  go_enter Tryd.func162, Tryd.ntmps162
  go_wp2_with fail
  refine (within_any _ _ _ _).mono ?_
  rintro e w1 ⟨rfl, rfl⟩
  go_wp2_with fail
  go_ret
  exact ⟨rfl, (Below.refl _ _).alloc (Nat.le_refl _) _⟩
theorem text_any (A : Option Addr) (m c : Nat) (n : Int) (w : World) (hm : m ≤ 9223372036854775807) : Calls Tryd.prog 161 #[.agg (lookCells vf vc (.slice A m c) params regs gen vca vco), .int .i64 n] w fun e w' => e = .returned (.bool (withinF n 0 ((m : Int) - 1))) ∧ Below w.heap.size w w' := by
  go_enter Tryd.func161, Tryd.ntmps161
  go_wp2_with fail
  refine (within_any _ _ _ _).mono ?_
  rintro e w1 ⟨rfl, rfl⟩
  go_wp2_with fail
  go_ret
  exact ⟨rfl, (Below.refl _ _).alloc (Nat.le_refl _) _⟩
end

/-! ### large -/
def longText (t : ByteArray) : Bool := decide (200 < t.size)
def longFn (f : Fn) : Bool := decide (600 < f.code.length) || decide (60 < f.regs)
theorem large1_any (t : ByteArray) (w : World) (ht : t.size ≤ 9223372036854775807) : Calls Tryd.prog 114 #[.string t] w fun e w' => e = .returned (.bool (longText t)) ∧ Below w.heap.size w w' := by
  by_cases h : 200 < t.size
  · rw [show longText t = true by simp [longText, h]]
    go_enter Tryd.func114, Tryd.ntmps114
    go_wp2
    go_ret
    exact ⟨by first | (simp [h]; done) | (simp; omega), Below.refl _ _⟩
  · rw [show longText t = false by simp [longText, h]]
    go_enter Tryd.func114, Tryd.ntmps114
    go_wp2
    go_ret
    exact ⟨by first | (simp [h]; done) | (simp; omega), Below.refl _ _⟩
theorem large2_any (f : Fn) (w : World) (v1 : Value) (A : Option Addr) (c : Nat) (hl : f.code.length ≤ 9223372036854775807) : Calls Tryd.prog 115 #[.agg #[.int .i64 f.params, .int .i64 f.regs, .bool f.gen, v1, .slice A f.code.length c]] w fun e w' => e = .returned (.bool (longFn f)) ∧ Below w.heap.size w w' := by
  unfold longFn
  obtain ⟨params, regs, gen, caught, code⟩ := f
  simp only at hl ⊢
  generalize code.length = m at hl ⊢
  by_cases h : 600 < m
  · rw [show (decide (600 < m) || decide (60 < regs)) = true by simp [h]]
    go_enter Tryd.func115, Tryd.ntmps115
    go_wp2
    go_ret
    exact ⟨by first | rfl | (simp [h]; done) | (simp; omega), (Below.refl _ _).alloc (Nat.le_refl _) _⟩
  · by_cases h2 : 60 < regs
    · rw [show (decide (600 < m) || decide (60 < regs)) = true by simp [h2]]
      go_enter Tryd.func115, Tryd.ntmps115
      go_wp2
      go_ret
      exact ⟨by first | rfl | (simp [h]; done) | (simp; omega), (Below.refl _ _).alloc (Nat.le_refl _) _⟩
    · rw [show (decide (600 < m) || decide (60 < regs)) = false by simp [h, h2]]
      go_enter Tryd.func115, Tryd.ntmps115
      go_wp2
      go_ret
      exact ⟨by first | rfl | (simp [h]; done) | (simp; omega), (Below.refl _ _).alloc (Nat.le_refl _) _⟩
def largeF (p : Prog) : Bool := decide (60 < p.fns.length) || decide (200 < p.consts.length) || decide (200 < p.texts.length) || p.texts.any longText || p.fns.any longFn

theorem ent_large1 : ∀ args w, (callFunc 114 args).run Tryd.prog w = .ok (.enter 114 args) w := enters_of Tryd.func114 (by kernel_rfl) rfl
theorem ent_large2 : ∀ args w, (callFunc 115 args).run Tryd.prog w = .ok (.enter 115 args) w := enters_of Tryd.func115 (by kernel_rfl) rfl

set_option maxRecDepth 100000 in
theorem large_any (p : Prog) (ok : Nat → Prop) (w : World) (A1 A2 A3 : Option Addr) (c1 c2 c3 : Nat) (h1 : rdFn.C ok w A1 p.fns.length p.fns) (h2 : p.consts.length ≤ 9223372036854775807) (h3 : Rd.str.C ok w A3 p.texts.length p.texts) :
    Calls Tryd.prog 79 #[.agg #[.slice A1 p.fns.length c1, .slice A2 p.consts.length c2, .slice A3 p.texts.length c3]] w fun e w' => e = .returned (.bool (largeF p)) ∧ Below w.heap.size w w' := by
  have B0 : ∀ o, Below w.heap.size w (w.alloc o) := fun o => (Below.refl _ _).alloc (Nat.le_refl _) _
  have hn1 := h1.2.1
  have hn3 := h3.2.1
  have T : ∀ w', Below w.heap.size w w' → Calls Tryd.prog 113 #[.slice A3 p.texts.length c3, .func (.func 114) #[] #[]] w' fun e w'' => e = .returned (.bool (p.texts.any longText)) ∧ Below w'.heap.size w' w'' := fun w' hb =>
    containsStr ok _ #[] longText w' A3 _ c3 p.texts (h3.move (fun k _ hk => hb.block k hk)) ent_large1 (fun x hx w2 _ hi => large1_any x w2 hi)
  have F : ∀ w', Below w.heap.size w w' → Calls Tryd.prog 81 #[.slice A1 p.fns.length c1, .func (.func 115) #[] #[]] w' fun e w'' => e = .returned (.bool (p.fns.any longFn)) ∧ Below w'.heap.size w' w'' := fun w' hb =>
    containsFn ok _ #[] longFn w' A1 _ c1 p.fns (h1.move (fun k _ hk => hb.block k hk)) ent_large2 (fun x hx w2 _ v1 v2 hv1 hv2 hi => by
      obtain ⟨A, c, hv, _, _, _, hC⟩ := hv2
      injection hv with hv
      subst hv
      exact large2_any x w2 v1 A c hC.2.1)
  have HT := Lib.hid T
  have HF := Lib.hid F
  have HB := Lib.hid B0
  clear T F B0 h1 h3
  unfold largeF
  generalize p.texts.any longText = bt at HT ⊢
  generalize p.fns.any longFn = bf at HF ⊢
  generalize p.fns.length = n1 at hn1 HT HF ⊢
  generalize p.consts.length = n2 at h2 ⊢
  generalize p.texts.length = n3 at hn3 HT HF ⊢
  by_cases g1 : 60 < n1
  · rw [show (decide (60 < n1) || decide (200 < n2) || decide (200 < n3) || bt || bf) = true by simp [g1]]
    go_enter Tryd.func79, Tryd.ntmps79
    go_wp2_with fail
    go_ret
    exact ⟨by first | rfl | (simp; done) | (simp; omega), HB.out _⟩
  by_cases g2 : 200 < n2
  · rw [show (decide (60 < n1) || decide (200 < n2) || decide (200 < n3) || bt || bf) = true by simp [g2]]
    go_enter Tryd.func79, Tryd.ntmps79
    go_wp2_with fail
    go_ret
    exact ⟨by first | rfl | (simp; done) | (simp; omega), HB.out _⟩
  by_cases g3 : 200 < n3
  · rw [show (decide (60 < n1) || decide (200 < n2) || decide (200 < n3) || bt || bf) = true by simp [g3]]
    go_enter Tryd.func79, Tryd.ntmps79
    go_wp2_with fail
    go_ret
    exact ⟨by first | rfl | (simp; done) | (simp; omega), HB.out _⟩
  rw [show (decide (60 < n1) || decide (200 < n2) || decide (200 < n3) || bt || bf) = (bt || bf) by simp [g1, g2, g3]]
  cases bt with
  | true =>
    rw [Bool.true_or]
    go_enter Tryd.func79, Tryd.ntmps79
    go_wp2_with fail
    refine (HT.out _ (HB.out _)).mono ?_
    rintro e w1 ⟨rfl, hb⟩
    have H1 := Lib.hid ((HB.out _).trans (hb.mono (HB.out _).size))
    clear hb
    go_wp2_with fail
    go_ret
    exact ⟨by first | rfl | (simp; done) | (simp; omega), H1.out⟩
  | false =>
    rw [Bool.false_or]
    go_enter Tryd.func79, Tryd.ntmps79
    go_wp2_with fail
    refine (HT.out _ (HB.out _)).mono ?_
    rintro e w1 ⟨rfl, hb⟩
    have H1 := Lib.hid ((HB.out _).trans (hb.mono (HB.out _).size))
    have k0 : w1.cell? ⟨w.heap.size, 0, none⟩ = some (.slice A1 n1 c1) := by rw [hb.cell (p := ⟨w.heap.size, 0, none⟩) (by simp)]; simp
    clear hb
    go_wp2_with fail
    refine (HF.out _ H1.out).mono ?_
    rintro e w2 ⟨rfl, hb⟩
    have H2 := Lib.hid (H1.out.trans (hb.mono H1.out.size))
    clear hb
    go_wp2_with fail
    go_ret
    exact ⟨by first | rfl | (simp; done) | (simp; omega), H2.out⟩
end Go.Proofs.YtefkifdhjabdiaaDoor
namespace Go.Proofs.YtefkifdhjabdiaaDoor
set_option linter.unusedVariables false
set_option linter.unusedSimpArgs false
open Go.RowKit

theorem owithin_any (n lo hi : Int) (w : World) : Calls Tryd.prog 106 #[.int .i64 n, .int .i64 lo, .int .i64 hi] w fun e w' => e = .returned (.bool (withinF n lo hi)) ∧ w = w' := by
  by_cases h1 : lo ≤ n
  · by_cases h2 : n ≤ hi
    · rw [show withinF n lo hi = true by simp [withinF, h1, h2]]
      go_enter Tryd.func106, Tryd.ntmps106
      go_wp2
      go_ret
      exact ⟨rfl, rfl⟩
    · rw [show withinF n lo hi = false by simp [withinF, h1, h2]]
      go_enter Tryd.func106, Tryd.ntmps106
      go_wp2
      go_ret
      exact ⟨rfl, rfl⟩
  · rw [show withinF n lo hi = false by simp [withinF, h1]]
    go_enter Tryd.func106, Tryd.ntmps106
    go_wp2
    go_ret
    exact ⟨rfl, rfl⟩
set_option maxRecDepth 100000 in
set_option maxHeartbeats 4000000 in
theorem right_plain (k n : Int) (hk : k ≠ 3) (w : World) : Calls Tryd.prog 85 #[.agg #[.int .i64 k, .int .i64 n]] w fun e w' => e = .returned (.bool (if k = 0 then decide (n = 0) else if k = 1 then withinF n 0 1 else if k = 2 then withinF n (-2147483648) 2147483647 else if k = 4 ∨ k = 5 then decide (0 ≤ n) else if k = 6 then withinF n 0 15 else false)) ∧ Below w.heap.size w w' := by
  have HB := Lib.hid (show ∀ o, Below w.heap.size w (w.alloc o) from fun o => (Below.refl _ _).alloc (Nat.le_refl _) _)
  have b3 : (k == 3) = false := by simpa using hk
  by_cases h0 : k = 0
  · subst h0
    rw [if_pos rfl]
    go_enter Tryd.func85, Tryd.ntmps85
    go_wp2_with fail
    go_ret
    exact ⟨by by_cases hn : n = 0 <;> simp [hn], HB.out _⟩
  rw [if_neg h0]
  have b0 : (k == 0) = false := by simpa using h0
  by_cases h1 : k = 1
  · subst h1
    rw [if_pos rfl]
    go_enter Tryd.func85, Tryd.ntmps85
    go_wp2_with fail
    refine (owithin_any _ _ _ _).mono ?_
    rintro e w1 ⟨rfl, rfl⟩
    go_wp2_with fail
    go_ret
    exact ⟨rfl, HB.out _⟩
  rw [if_neg h1]
  have b1 : (k == 1) = false := by simpa using h1
  by_cases h2 : k = 2
  · subst h2
    rw [if_pos rfl]
    go_enter Tryd.func85, Tryd.ntmps85
    go_wp2_with fail
    refine (owithin_any _ _ _ _).mono ?_
    rintro e w1 ⟨rfl, rfl⟩
    go_wp2_with fail
    go_ret
    exact ⟨rfl, HB.out _⟩
  rw [if_neg h2]
  have b2 : (k == 2) = false := by simpa using h2
  by_cases h4 : k = 4
  · subst h4
    rw [if_pos (.inl rfl)]
    go_enter Tryd.func85, Tryd.ntmps85
    go_wp2_with fail
    go_ret
    exact ⟨rfl, HB.out _⟩
  have b4 : (k == 4) = false := by simpa using h4
  by_cases h5 : k = 5
  · subst h5
    rw [if_pos (.inr rfl)]
    go_enter Tryd.func85, Tryd.ntmps85
    go_wp2_with fail
    go_ret
    exact ⟨rfl, HB.out _⟩
  rw [if_neg (by omega)]
  have b5 : (k == 5) = false := by simpa using h5
  by_cases h6 : k = 6
  · subst h6
    rw [if_pos rfl]
    go_enter Tryd.func85, Tryd.ntmps85
    go_wp2_with fail
    refine (owithin_any _ _ _ _).mono ?_
    rintro e w1 ⟨rfl, rfl⟩
    go_wp2_with fail
    go_ret
    exact ⟨rfl, HB.out _⟩
  rw [if_neg h6]
  have b6 : (k == 6) = false := by simpa using h6
  clear h0 h1 h2 h4 h5 h6 hk
  go_enter Tryd.func85, Tryd.ntmps85
  go_wp2_with fail
  go_ret
  exact ⟨rfl, HB.out _⟩
end Go.Proofs.YtefkifdhjabdiaaDoor
namespace Go.Proofs.YtefkifdhjabdiaaDoor
set_option linter.unusedVariables false
set_option linter.unusedSimpArgs false
open Go.RowKit

/-- Is a float itself? -/
def selfB (n : Int) : Bool := FloatKind.f64.format.order (IntKind.u64.wrap n).toNat (IntKind.u64.wrap n).toNat == some Ordering.eq

set_option maxRecDepth 100000 in
set_option maxHeartbeats 4000000 in
theorem right_f1 (n : Int) (w : World) (hs : selfB n = true) : Calls Tryd.prog 85 #[.agg #[.int .i64 3, .int .i64 n]] w fun e w' => e = .returned (.bool true) ∧ Below w.heap.size w w' := by
  unfold selfB at hs
  obtain ⟨W0, hW0⟩ : ∃ W0, W0 = w.alloc (.cells #[.int .i64 3, .int .i64 n] 44) := ⟨_, rfl⟩
  have HS : Hid (∀ w', Below (w.heap.size + 1) W0 w' → w'.cell? ⟨w.heap.size, 0, none⟩ = some (.int .i64 3) ∧ w'.cell? ⟨w.heap.size, 1, none⟩ = some (.int .i64 n) ∧ w.heap.size < w'.heap.size ∧ Below (w.heap.size + 1) W0 w') := Lib.hid (fun w' h' => by
    have e : ∀ i, w'.cell? ⟨w.heap.size, i, none⟩ = W0.cell? ⟨w.heap.size, i, none⟩ := fun i => h'.cell (p := ⟨w.heap.size, i, none⟩) (by simp)
    refine ⟨?_, ?_, by have := h'.size; rw [hW0] at this; simp at this; omega, h'⟩ <;> (rw [e, hW0]; simp))
  have HB : Hid (Below w.heap.size w W0) := Lib.hid (by rw [hW0]; exact (Below.refl _ _).alloc (Nat.le_refl _) _)
  go_enter Tryd.func85, Tryd.ntmps85
  go_wp2_with fail
  rw [← hW0]
  clear hW0
  refine wp_region_held_drew (S := fun w' => w'.cell? ⟨w.heap.size, 0, none⟩ = some (.int .i64 3) ∧ w'.cell? ⟨w.heap.size, 1, none⟩ = some (.int .i64 n) ∧ w.heap.size < w'.heap.size ∧ Below (w.heap.size + 1) W0 w') (by kernel_rfl) (HS.out _ (Below.refl _ _).drew) (fun hHeld => ?_)
  try dsimp only
  refine wpAnyH_take (i := 0) (oi := ?oiz4) (v := ?vvz4) ?hiz4 (by kernel_rfl) (by kernel_rfl) (by kernel_rfl) ?hQz4 (Or.inl ⟨?hwz4, ?hyz4⟩) (by assumption) ?hhz4
  case hiz4 => simp only [List.getElem?_toArray, List.getElem?_cons_succ, List.getElem?_cons_zero]; rfl
  case hwz4 => rfl
  case hyz4 => (intro w hSw; (try dsimp only at hSw); go_simp; (try with_reducible rfl))
  case hQz4 => exact fun _ _ _ h => h
  try simp only [Act.put, List.setIfInBounds_toArray, List.set_cons_zero, List.set_cons_succ]
  refine wpAnyH_take (i := 2) (oi := ?oiz5) (v := ?vvz5) ?hiz5 (by kernel_rfl) (by kernel_rfl) (by kernel_rfl) ?hQz5 (Or.inl ⟨?hwz5, ?hyz5⟩) (by assumption) ?hhz5
  case hiz5 => simp only [List.getElem?_toArray, List.getElem?_cons_succ, List.getElem?_cons_zero]; rfl
  case hwz5 => rfl
  case hyz5 => (intro w hSw; (try dsimp only at hSw); go_simp; (try with_reducible rfl))
  case hQz5 => exact fun _ _ _ h => h
  try simp only [Act.put, List.setIfInBounds_toArray, List.set_cons_zero, List.set_cons_succ]
  refine wpAnyH_ready (rs := [1]) (by kernel_rfl) (by simp) ?_
  refine AllReadyH.cons (o := ?oiz6) ?hiz6 (fun K hK => ?hhz6) AllReadyH.nil
  case hiz6 => simp only [List.getElem?_toArray, List.getElem?_cons_succ, List.getElem?_cons_zero]; rfl
  go_simp
  go_at_call 73
  refine (float_any _ _ _).mono ?_
  rintro e w' ⟨rfl, hbb⟩
  go_wp2_with fail
  refine hK.out _ _ ?_ (fun hHeld2 => ?_)
  · (go_split_ands; exact HS.out _ ((by assumption : Below (w.heap.size + 1) W0 _).trans (hbb.mono (by omega))))
  clear hK K hHeld
  have hHeld := hHeld2
  clear hHeld2
  try simp only [Act.put, List.setIfInBounds_toArray, List.set_cons_zero, List.set_cons_succ]
  refine wpAnyH_ready (rs := [3]) (by kernel_rfl) (by simp) ?_
  refine AllReadyH.cons (o := ?oiz7) ?hiz7 (fun K hK => ?hhz7) AllReadyH.nil
  case hiz7 => simp only [List.getElem?_toArray, List.getElem?_cons_succ, List.getElem?_cons_zero]; rfl
  go_simp
  go_at_call 73
  refine (float_any _ _ _).mono ?_
  rintro e w' ⟨rfl, hbb⟩
  go_wp2_with fail
  refine hK.out _ _ ?_ (fun hHeld2 => ?_)
  · (go_split_ands; exact HS.out _ ((by assumption : Below (w.heap.size + 1) W0 _).trans (hbb.mono (by omega))))
  clear hK K hHeld
  have hHeld := hHeld2
  clear hHeld2
  try simp only [Act.put, List.setIfInBounds_toArray, List.set_cons_zero, List.set_cons_succ]
  refine wpAnyH_take (i := 4) (oi := ?oiz8) (v := ?vvz8) ?hiz8 (by kernel_rfl) (by kernel_rfl) (by kernel_rfl) ?hQz8 (Or.inl ⟨?hwz8, ?hyz8⟩) (by assumption) ?hhz8
  case hiz8 => simp only [List.getElem?_toArray, List.getElem?_cons_succ, List.getElem?_cons_zero]; rfl
  case hwz8 => rfl
  case hyz8 => (intro w hSw; (try dsimp only at hSw); go_simp; (try with_reducible rfl))
  case hQz8 => exact fun _ _ _ h => h
  try simp only [Act.put, List.setIfInBounds_toArray, List.set_cons_zero, List.set_cons_succ]
  refine wpAnyH_take (i := 5) (oi := ?oiz9) (v := ?vvz9) ?hiz9 (by kernel_rfl) (by kernel_rfl) (by kernel_rfl) ?hQz9 (Or.inl ⟨?hwz9, ?hyz9⟩) (by assumption) ?hhz9
  case hiz9 => simp only [List.getElem?_toArray, List.getElem?_cons_succ, List.getElem?_cons_zero]; rfl
  case hwz9 => rfl
  case hyz9 => (intro w hSw; (try dsimp only at hSw); go_simp; (try with_reducible rfl))
  case hQz9 => exact fun _ _ _ h => h
  try simp only [Act.put, List.setIfInBounds_toArray, List.set_cons_zero, List.set_cons_succ]
  refine wpAnyH_take (i := 6) (oi := ?oiz1) (v := undef) ?hiz1 (by kernel_rfl) (by kernel_rfl) (by kernel_rfl) ?hQz1 (Or.inr ⟨?hwz1, rfl⟩) (by assumption) ?hhz1
  case hiz1 => simp only [List.getElem?_toArray, List.getElem?_cons_succ, List.getElem?_cons_zero]; rfl
  case hwz1 => rfl
  case hQz1 => exact fun _ _ _ h => h
  try simp only [Act.put, List.setIfInBounds_toArray, List.set_cons_zero, List.set_cons_succ]
  refine wpAnyH_take (i := 7) (oi := ?oiz2) (v := undef) ?hiz2 (by kernel_rfl) (by kernel_rfl) (by kernel_rfl) ?hQz2 (Or.inr ⟨?hwz2, rfl⟩) (by assumption) ?hhz2
  case hiz2 => simp only [List.getElem?_toArray, List.getElem?_cons_succ, List.getElem?_cons_zero]; rfl
  case hwz2 => rfl
  case hQz2 => exact fun _ _ _ h => h
  try simp only [Act.put, List.setIfInBounds_toArray, List.set_cons_zero, List.set_cons_succ]
  refine wpAnyH_take (i := 8) (oi := ?oiz3) (v := undef) ?hiz3 (by kernel_rfl) (by kernel_rfl) (by kernel_rfl) ?hQz3 (Or.inr ⟨?hwz3, rfl⟩) (by assumption) ?hhz3
  case hiz3 => simp only [List.getElem?_toArray, List.getElem?_cons_succ, List.getElem?_cons_zero]; rfl
  case hwz3 => rfl
  case hQz3 => exact fun _ _ _ h => h
  try simp only [Act.put, List.setIfInBounds_toArray, List.set_cons_zero, List.set_cons_succ]
  refine wpAnyH_take (i := 9) (oi := ?oiz10) (v := ?vvz10) ?hiz10 (by kernel_rfl) (by kernel_rfl) (by kernel_rfl) ?hQz10 (Or.inl ⟨?hwz10, ?hyz10⟩) (by assumption) ?hhz10
  case hiz10 => simp only [List.getElem?_toArray, List.getElem?_cons_succ, List.getElem?_cons_zero]; rfl
  case hwz10 => rfl
  case hyz10 => (intro w hSw; (try dsimp only at hSw); go_simp; (try with_reducible rfl))
  case hQz10 => exact fun _ _ _ h => h
  try simp only [Act.put, List.setIfInBounds_toArray, List.set_cons_zero, List.set_cons_succ]
  refine wpAnyH_take (i := 10) (oi := ?oiz11) (v := ?vvz11) ?hiz11 (by kernel_rfl) (by kernel_rfl) (by kernel_rfl) ?hQz11 (Or.inl ⟨?hwz11, ?hyz11⟩) (by assumption) ?hhz11
  case hiz11 => simp only [List.getElem?_toArray, List.getElem?_cons_succ, List.getElem?_cons_zero]; rfl
  case hwz11 => rfl
  case hyz11 => (intro w hSw; (try dsimp only at hSw); go_simp; (try with_reducible rfl))
  case hQz11 => exact fun _ _ _ h => h
  try simp only [Act.put, List.setIfInBounds_toArray, List.set_cons_zero, List.set_cons_succ]
  refine wpAnyH_done (by kernel_rfl) ?_ _
  go_split_ands
  go_wp2_with fail
  go_ret
  exact ⟨rfl, HB.out.trans (Below.mono (by assumption) (by omega))⟩

set_option maxRecDepth 100000 in
set_option maxHeartbeats 4000000 in
theorem right_f2 (n : Int) (w : World) (hs : selfB n = false) (hn : (n == 9221120237041090561) = true) : Calls Tryd.prog 85 #[.agg #[.int .i64 3, .int .i64 n]] w fun e w' => e = .returned (.bool true) ∧ Below w.heap.size w w' := by
  unfold selfB at hs
  obtain ⟨W0, hW0⟩ : ∃ W0, W0 = w.alloc (.cells #[.int .i64 3, .int .i64 n] 44) := ⟨_, rfl⟩
  have HS : Hid (∀ w', Below (w.heap.size + 1) W0 w' → w'.cell? ⟨w.heap.size, 0, none⟩ = some (.int .i64 3) ∧ w'.cell? ⟨w.heap.size, 1, none⟩ = some (.int .i64 n) ∧ w.heap.size < w'.heap.size ∧ Below (w.heap.size + 1) W0 w') := Lib.hid (fun w' h' => by
    have e : ∀ i, w'.cell? ⟨w.heap.size, i, none⟩ = W0.cell? ⟨w.heap.size, i, none⟩ := fun i => h'.cell (p := ⟨w.heap.size, i, none⟩) (by simp)
    refine ⟨?_, ?_, by have := h'.size; rw [hW0] at this; simp at this; omega, h'⟩ <;> (rw [e, hW0]; simp))
  have HB : Hid (Below w.heap.size w W0) := Lib.hid (by rw [hW0]; exact (Below.refl _ _).alloc (Nat.le_refl _) _)
  go_enter Tryd.func85, Tryd.ntmps85
  go_wp2_with fail
  rw [← hW0]
  clear hW0
  refine wp_region_held_drew (S := fun w' => w'.cell? ⟨w.heap.size, 0, none⟩ = some (.int .i64 3) ∧ w'.cell? ⟨w.heap.size, 1, none⟩ = some (.int .i64 n) ∧ w.heap.size < w'.heap.size ∧ Below (w.heap.size + 1) W0 w') (by kernel_rfl) (HS.out _ (Below.refl _ _).drew) (fun hHeld => ?_)
  try dsimp only
  refine wpAnyH_take (i := 0) (oi := ?oiz15) (v := ?vvz15) ?hiz15 (by kernel_rfl) (by kernel_rfl) (by kernel_rfl) ?hQz15 (Or.inl ⟨?hwz15, ?hyz15⟩) (by assumption) ?hhz15
  case hiz15 => simp only [List.getElem?_toArray, List.getElem?_cons_succ, List.getElem?_cons_zero]; rfl
  case hwz15 => rfl
  case hyz15 => (intro w hSw; (try dsimp only at hSw); go_simp; (try with_reducible rfl))
  case hQz15 => exact fun _ _ _ h => h
  try simp only [Act.put, List.setIfInBounds_toArray, List.set_cons_zero, List.set_cons_succ]
  refine wpAnyH_take (i := 2) (oi := ?oiz16) (v := ?vvz16) ?hiz16 (by kernel_rfl) (by kernel_rfl) (by kernel_rfl) ?hQz16 (Or.inl ⟨?hwz16, ?hyz16⟩) (by assumption) ?hhz16
  case hiz16 => simp only [List.getElem?_toArray, List.getElem?_cons_succ, List.getElem?_cons_zero]; rfl
  case hwz16 => rfl
  case hyz16 => (intro w hSw; (try dsimp only at hSw); go_simp; (try with_reducible rfl))
  case hQz16 => exact fun _ _ _ h => h
  try simp only [Act.put, List.setIfInBounds_toArray, List.set_cons_zero, List.set_cons_succ]
  refine wpAnyH_ready (rs := [1]) (by kernel_rfl) (by simp) ?_
  refine AllReadyH.cons (o := ?oiz17) ?hiz17 (fun K hK => ?hhz17) AllReadyH.nil
  case hiz17 => simp only [List.getElem?_toArray, List.getElem?_cons_succ, List.getElem?_cons_zero]; rfl
  go_simp
  go_at_call 73
  refine (float_any _ _ _).mono ?_
  rintro e w' ⟨rfl, hbb⟩
  go_wp2_with fail
  refine hK.out _ _ ?_ (fun hHeld2 => ?_)
  · (go_split_ands; exact HS.out _ ((by assumption : Below (w.heap.size + 1) W0 _).trans (hbb.mono (by omega))))
  clear hK K hHeld
  have hHeld := hHeld2
  clear hHeld2
  try simp only [Act.put, List.setIfInBounds_toArray, List.set_cons_zero, List.set_cons_succ]
  refine wpAnyH_ready (rs := [3]) (by kernel_rfl) (by simp) ?_
  refine AllReadyH.cons (o := ?oiz18) ?hiz18 (fun K hK => ?hhz18) AllReadyH.nil
  case hiz18 => simp only [List.getElem?_toArray, List.getElem?_cons_succ, List.getElem?_cons_zero]; rfl
  go_simp
  go_at_call 73
  refine (float_any _ _ _).mono ?_
  rintro e w' ⟨rfl, hbb⟩
  go_wp2_with fail
  refine hK.out _ _ ?_ (fun hHeld2 => ?_)
  · (go_split_ands; exact HS.out _ ((by assumption : Below (w.heap.size + 1) W0 _).trans (hbb.mono (by omega))))
  clear hK K hHeld
  have hHeld := hHeld2
  clear hHeld2
  try simp only [Act.put, List.setIfInBounds_toArray, List.set_cons_zero, List.set_cons_succ]
  refine wpAnyH_take (i := 4) (oi := ?oiz19) (v := ?vvz19) ?hiz19 (by kernel_rfl) (by kernel_rfl) (by kernel_rfl) ?hQz19 (Or.inl ⟨?hwz19, ?hyz19⟩) (by assumption) ?hhz19
  case hiz19 => simp only [List.getElem?_toArray, List.getElem?_cons_succ, List.getElem?_cons_zero]; rfl
  case hwz19 => rfl
  case hyz19 => (intro w hSw; (try dsimp only at hSw); go_simp; (try with_reducible rfl))
  case hQz19 => exact fun _ _ _ h => h
  try simp only [Act.put, List.setIfInBounds_toArray, List.set_cons_zero, List.set_cons_succ]
  refine wpAnyH_take (i := 5) (oi := ?oiz20) (v := ?vvz20) ?hiz20 (by kernel_rfl) (by kernel_rfl) (by kernel_rfl) ?hQz20 (Or.inl ⟨?hwz20, ?hyz20⟩) (by assumption) ?hhz20
  case hiz20 => simp only [List.getElem?_toArray, List.getElem?_cons_succ, List.getElem?_cons_zero]; rfl
  case hwz20 => rfl
  case hyz20 => (intro w hSw; (try dsimp only at hSw); go_simp; (try with_reducible rfl))
  case hQz20 => exact fun _ _ _ h => h
  try simp only [Act.put, List.setIfInBounds_toArray, List.set_cons_zero, List.set_cons_succ]
  refine wpAnyH_take (i := 6) (oi := ?oiz12) (v := ?vvz12) ?hiz12 (by kernel_rfl) (by kernel_rfl) (by kernel_rfl) ?hQz12 (Or.inl ⟨?hwz12, ?hyz12⟩) (by assumption) ?hhz12
  case hiz12 => simp only [List.getElem?_toArray, List.getElem?_cons_succ, List.getElem?_cons_zero]; rfl
  case hwz12 => rfl
  case hyz12 => (intro w hSw; (try dsimp only at hSw); go_simp; (try with_reducible rfl))
  case hQz12 => exact fun _ _ _ h => h
  try simp only [Act.put, List.setIfInBounds_toArray, List.set_cons_zero, List.set_cons_succ]
  refine wpAnyH_take (i := 7) (oi := ?oiz13) (v := ?vvz13) ?hiz13 (by kernel_rfl) (by kernel_rfl) (by kernel_rfl) ?hQz13 (Or.inl ⟨?hwz13, ?hyz13⟩) (by assumption) ?hhz13
  case hiz13 => simp only [List.getElem?_toArray, List.getElem?_cons_succ, List.getElem?_cons_zero]; rfl
  case hwz13 => rfl
  case hyz13 => (intro w hSw; (try dsimp only at hSw); go_simp; (try with_reducible rfl))
  case hQz13 => exact fun _ _ _ h => h
  try simp only [Act.put, List.setIfInBounds_toArray, List.set_cons_zero, List.set_cons_succ]
  refine wpAnyH_take (i := 8) (oi := ?oiz14) (v := ?vvz14) ?hiz14 (by kernel_rfl) (by kernel_rfl) (by kernel_rfl) ?hQz14 (Or.inl ⟨?hwz14, ?hyz14⟩) (by assumption) ?hhz14
  case hiz14 => simp only [List.getElem?_toArray, List.getElem?_cons_succ, List.getElem?_cons_zero]; rfl
  case hwz14 => rfl
  case hyz14 => (intro w hSw; (try dsimp only at hSw); go_simp; (try with_reducible rfl))
  case hQz14 => exact fun _ _ _ h => h
  try simp only [Act.put, List.setIfInBounds_toArray, List.set_cons_zero, List.set_cons_succ]
  refine wpAnyH_take (i := 9) (oi := ?oiz21) (v := ?vvz21) ?hiz21 (by kernel_rfl) (by kernel_rfl) (by kernel_rfl) ?hQz21 (Or.inl ⟨?hwz21, ?hyz21⟩) (by assumption) ?hhz21
  case hiz21 => simp only [List.getElem?_toArray, List.getElem?_cons_succ, List.getElem?_cons_zero]; rfl
  case hwz21 => rfl
  case hyz21 => (intro w hSw; (try dsimp only at hSw); go_simp; (try with_reducible rfl))
  case hQz21 => exact fun _ _ _ h => h
  try simp only [Act.put, List.setIfInBounds_toArray, List.set_cons_zero, List.set_cons_succ]
  refine wpAnyH_take (i := 10) (oi := ?oiz22) (v := ?vvz22) ?hiz22 (by kernel_rfl) (by kernel_rfl) (by kernel_rfl) ?hQz22 (Or.inl ⟨?hwz22, ?hyz22⟩) (by assumption) ?hhz22
  case hiz22 => simp only [List.getElem?_toArray, List.getElem?_cons_succ, List.getElem?_cons_zero]; rfl
  case hwz22 => rfl
  case hyz22 => (intro w hSw; (try dsimp only at hSw); go_simp; (try with_reducible rfl))
  case hQz22 => exact fun _ _ _ h => h
  try simp only [Act.put, List.setIfInBounds_toArray, List.set_cons_zero, List.set_cons_succ]
  refine wpAnyH_done (by kernel_rfl) ?_ _
  go_split_ands
  go_wp2_with fail
  go_ret
  exact ⟨rfl, HB.out.trans (Below.mono (by assumption) (by omega))⟩

set_option maxRecDepth 100000 in
set_option maxHeartbeats 4000000 in
theorem right_f3 (n : Int) (w : World) (hs : selfB n = false) (hn : (n == 9221120237041090561) = false) : Calls Tryd.prog 85 #[.agg #[.int .i64 3, .int .i64 n]] w fun e w' => e = .returned (.bool false) ∧ Below w.heap.size w w' := by
  unfold selfB at hs
  obtain ⟨W0, hW0⟩ : ∃ W0, W0 = w.alloc (.cells #[.int .i64 3, .int .i64 n] 44) := ⟨_, rfl⟩
  have HS : Hid (∀ w', Below (w.heap.size + 1) W0 w' → w'.cell? ⟨w.heap.size, 0, none⟩ = some (.int .i64 3) ∧ w'.cell? ⟨w.heap.size, 1, none⟩ = some (.int .i64 n) ∧ w.heap.size < w'.heap.size ∧ Below (w.heap.size + 1) W0 w') := Lib.hid (fun w' h' => by
    have e : ∀ i, w'.cell? ⟨w.heap.size, i, none⟩ = W0.cell? ⟨w.heap.size, i, none⟩ := fun i => h'.cell (p := ⟨w.heap.size, i, none⟩) (by simp)
    refine ⟨?_, ?_, by have := h'.size; rw [hW0] at this; simp at this; omega, h'⟩ <;> (rw [e, hW0]; simp))
  have HB : Hid (Below w.heap.size w W0) := Lib.hid (by rw [hW0]; exact (Below.refl _ _).alloc (Nat.le_refl _) _)
  go_enter Tryd.func85, Tryd.ntmps85
  go_wp2_with fail
  rw [← hW0]
  clear hW0
  refine wp_region_held_drew (S := fun w' => w'.cell? ⟨w.heap.size, 0, none⟩ = some (.int .i64 3) ∧ w'.cell? ⟨w.heap.size, 1, none⟩ = some (.int .i64 n) ∧ w.heap.size < w'.heap.size ∧ Below (w.heap.size + 1) W0 w') (by kernel_rfl) (HS.out _ (Below.refl _ _).drew) (fun hHeld => ?_)
  try dsimp only
  refine wpAnyH_take (i := 0) (oi := ?oiz26) (v := ?vvz26) ?hiz26 (by kernel_rfl) (by kernel_rfl) (by kernel_rfl) ?hQz26 (Or.inl ⟨?hwz26, ?hyz26⟩) (by assumption) ?hhz26
  case hiz26 => simp only [List.getElem?_toArray, List.getElem?_cons_succ, List.getElem?_cons_zero]; rfl
  case hwz26 => rfl
  case hyz26 => (intro w hSw; (try dsimp only at hSw); go_simp; (try with_reducible rfl))
  case hQz26 => exact fun _ _ _ h => h
  try simp only [Act.put, List.setIfInBounds_toArray, List.set_cons_zero, List.set_cons_succ]
  refine wpAnyH_take (i := 2) (oi := ?oiz27) (v := ?vvz27) ?hiz27 (by kernel_rfl) (by kernel_rfl) (by kernel_rfl) ?hQz27 (Or.inl ⟨?hwz27, ?hyz27⟩) (by assumption) ?hhz27
  case hiz27 => simp only [List.getElem?_toArray, List.getElem?_cons_succ, List.getElem?_cons_zero]; rfl
  case hwz27 => rfl
  case hyz27 => (intro w hSw; (try dsimp only at hSw); go_simp; (try with_reducible rfl))
  case hQz27 => exact fun _ _ _ h => h
  try simp only [Act.put, List.setIfInBounds_toArray, List.set_cons_zero, List.set_cons_succ]
  refine wpAnyH_ready (rs := [1]) (by kernel_rfl) (by simp) ?_
  refine AllReadyH.cons (o := ?oiz28) ?hiz28 (fun K hK => ?hhz28) AllReadyH.nil
  case hiz28 => simp only [List.getElem?_toArray, List.getElem?_cons_succ, List.getElem?_cons_zero]; rfl
  go_simp
  go_at_call 73
  refine (float_any _ _ _).mono ?_
  rintro e w' ⟨rfl, hbb⟩
  go_wp2_with fail
  refine hK.out _ _ ?_ (fun hHeld2 => ?_)
  · (go_split_ands; exact HS.out _ ((by assumption : Below (w.heap.size + 1) W0 _).trans (hbb.mono (by omega))))
  clear hK K hHeld
  have hHeld := hHeld2
  clear hHeld2
  try simp only [Act.put, List.setIfInBounds_toArray, List.set_cons_zero, List.set_cons_succ]
  refine wpAnyH_ready (rs := [3]) (by kernel_rfl) (by simp) ?_
  refine AllReadyH.cons (o := ?oiz29) ?hiz29 (fun K hK => ?hhz29) AllReadyH.nil
  case hiz29 => simp only [List.getElem?_toArray, List.getElem?_cons_succ, List.getElem?_cons_zero]; rfl
  go_simp
  go_at_call 73
  refine (float_any _ _ _).mono ?_
  rintro e w' ⟨rfl, hbb⟩
  go_wp2_with fail
  refine hK.out _ _ ?_ (fun hHeld2 => ?_)
  · (go_split_ands; exact HS.out _ ((by assumption : Below (w.heap.size + 1) W0 _).trans (hbb.mono (by omega))))
  clear hK K hHeld
  have hHeld := hHeld2
  clear hHeld2
  try simp only [Act.put, List.setIfInBounds_toArray, List.set_cons_zero, List.set_cons_succ]
  refine wpAnyH_take (i := 4) (oi := ?oiz30) (v := ?vvz30) ?hiz30 (by kernel_rfl) (by kernel_rfl) (by kernel_rfl) ?hQz30 (Or.inl ⟨?hwz30, ?hyz30⟩) (by assumption) ?hhz30
  case hiz30 => simp only [List.getElem?_toArray, List.getElem?_cons_succ, List.getElem?_cons_zero]; rfl
  case hwz30 => rfl
  case hyz30 => (intro w hSw; (try dsimp only at hSw); go_simp; (try with_reducible rfl))
  case hQz30 => exact fun _ _ _ h => h
  try simp only [Act.put, List.setIfInBounds_toArray, List.set_cons_zero, List.set_cons_succ]
  refine wpAnyH_take (i := 5) (oi := ?oiz31) (v := ?vvz31) ?hiz31 (by kernel_rfl) (by kernel_rfl) (by kernel_rfl) ?hQz31 (Or.inl ⟨?hwz31, ?hyz31⟩) (by assumption) ?hhz31
  case hiz31 => simp only [List.getElem?_toArray, List.getElem?_cons_succ, List.getElem?_cons_zero]; rfl
  case hwz31 => rfl
  case hyz31 => (intro w hSw; (try dsimp only at hSw); go_simp; (try with_reducible rfl))
  case hQz31 => exact fun _ _ _ h => h
  try simp only [Act.put, List.setIfInBounds_toArray, List.set_cons_zero, List.set_cons_succ]
  refine wpAnyH_take (i := 6) (oi := ?oiz23) (v := ?vvz23) ?hiz23 (by kernel_rfl) (by kernel_rfl) (by kernel_rfl) ?hQz23 (Or.inl ⟨?hwz23, ?hyz23⟩) (by assumption) ?hhz23
  case hiz23 => simp only [List.getElem?_toArray, List.getElem?_cons_succ, List.getElem?_cons_zero]; rfl
  case hwz23 => rfl
  case hyz23 => (intro w hSw; (try dsimp only at hSw); go_simp; (try with_reducible rfl))
  case hQz23 => exact fun _ _ _ h => h
  try simp only [Act.put, List.setIfInBounds_toArray, List.set_cons_zero, List.set_cons_succ]
  refine wpAnyH_take (i := 7) (oi := ?oiz24) (v := ?vvz24) ?hiz24 (by kernel_rfl) (by kernel_rfl) (by kernel_rfl) ?hQz24 (Or.inl ⟨?hwz24, ?hyz24⟩) (by assumption) ?hhz24
  case hiz24 => simp only [List.getElem?_toArray, List.getElem?_cons_succ, List.getElem?_cons_zero]; rfl
  case hwz24 => rfl
  case hyz24 => (intro w hSw; (try dsimp only at hSw); go_simp; (try with_reducible rfl))
  case hQz24 => exact fun _ _ _ h => h
  try simp only [Act.put, List.setIfInBounds_toArray, List.set_cons_zero, List.set_cons_succ]
  refine wpAnyH_take (i := 8) (oi := ?oiz25) (v := ?vvz25) ?hiz25 (by kernel_rfl) (by kernel_rfl) (by kernel_rfl) ?hQz25 (Or.inl ⟨?hwz25, ?hyz25⟩) (by assumption) ?hhz25
  case hiz25 => simp only [List.getElem?_toArray, List.getElem?_cons_succ, List.getElem?_cons_zero]; rfl
  case hwz25 => rfl
  case hyz25 => (intro w hSw; (try dsimp only at hSw); go_simp; (try with_reducible rfl))
  case hQz25 => exact fun _ _ _ h => h
  try simp only [Act.put, List.setIfInBounds_toArray, List.set_cons_zero, List.set_cons_succ]
  refine wpAnyH_take (i := 9) (oi := ?oiz32) (v := ?vvz32) ?hiz32 (by kernel_rfl) (by kernel_rfl) (by kernel_rfl) ?hQz32 (Or.inl ⟨?hwz32, ?hyz32⟩) (by assumption) ?hhz32
  case hiz32 => simp only [List.getElem?_toArray, List.getElem?_cons_succ, List.getElem?_cons_zero]; rfl
  case hwz32 => rfl
  case hyz32 => (intro w hSw; (try dsimp only at hSw); go_simp; (try with_reducible rfl))
  case hQz32 => exact fun _ _ _ h => h
  try simp only [Act.put, List.setIfInBounds_toArray, List.set_cons_zero, List.set_cons_succ]
  refine wpAnyH_take (i := 10) (oi := ?oiz33) (v := ?vvz33) ?hiz33 (by kernel_rfl) (by kernel_rfl) (by kernel_rfl) ?hQz33 (Or.inl ⟨?hwz33, ?hyz33⟩) (by assumption) ?hhz33
  case hiz33 => simp only [List.getElem?_toArray, List.getElem?_cons_succ, List.getElem?_cons_zero]; rfl
  case hwz33 => rfl
  case hyz33 => (intro w hSw; (try dsimp only at hSw); go_simp; (try with_reducible rfl))
  case hQz33 => exact fun _ _ _ h => h
  try simp only [Act.put, List.setIfInBounds_toArray, List.set_cons_zero, List.set_cons_succ]
  refine wpAnyH_done (by kernel_rfl) ?_ _
  go_split_ands
  go_wp2_with fail
  go_ret
  exact ⟨rfl, HB.out.trans (Below.mono (by assumption) (by omega))⟩
end Go.Proofs.YtefkifdhjabdiaaDoor
namespace Go.Proofs.YtefkifdhjabdiaaDoor
set_option linter.unusedVariables false
set_option linter.unusedSimpArgs false
open Go.RowKit

def rightF (v : Val) : Bool :=
  if v.kind = 3 then selfB v.n || decide (v.n = 9221120237041090561)
  else if v.kind = 0 then decide (v.n = 0) else if v.kind = 1 then withinF v.n 0 1 else if v.kind = 2 then withinF v.n (-2147483648) 2147483647 else if v.kind = 4 ∨ v.kind = 5 then decide (0 ≤ v.n) else if v.kind = 6 then withinF v.n 0 15 else false
theorem right_any (v : Val) (w : World) : Calls Tryd.prog 85 #[.agg v.cells] w fun e w' => e = .returned (.bool (rightF v)) ∧ Below w.heap.size w w' := by
  obtain ⟨k, n⟩ := v
  unfold rightF Val.cells
  simp only
  by_cases hk : k = 3
  · subst hk
    rw [if_pos rfl]
    cases hs : selfB n with
    | true => exact right_f1 n w hs
    | false =>
      by_cases hn : n = 9221120237041090561
      · rw [show (false || decide (n = 9221120237041090561)) = true by simp [hn]]
        exact right_f2 n w hs (by simpa using hn)
      · rw [show (false || decide (n = 9221120237041090561)) = false by simp [hn]]
        exact right_f3 n w hs (by simpa using hn)
  · rw [if_neg hk]
    exact right_plain k n hk w
end Go.Proofs.YtefkifdhjabdiaaDoor
namespace Go.Proofs.YtefkifdhjabdiaaDoor
set_option linter.unusedVariables false
set_option linter.unusedSimpArgs false
open Go.RowKit
def rightVF (v : EVal) : Bool := rightF ⟨v.1, v.2⟩
theorem cons_one {σ : Sg} {w : World} {c : CV} {cs : List CV} {vs : List Value} (h : CCs σ w (c :: cs) vs) : ∃ v r, vs = v :: r ∧ CC σ w c v ∧ CCs σ w cs r := h.cons_of
theorem nil_one {σ : Sg} {w : World} {vs : List Value} (h : CCs σ w [] vs) : vs = [] := List.eq_nil_of_length_eq_zero h.1.symm
theorem vals_one {σ : Sg} {w : World} {a : AV} {l : List AV} {vs : List Value} (h : All2 (CA σ w) (a :: l) vs) : ∃ v r, vs = v :: r ∧ CA σ w a v ∧ All2 (CA σ w) l r := h.cons_of
theorem vals_nil {σ : Sg} {w : World} {vs : List Value} (h : All2 (CA σ w) [] vs) : vs = [] := List.eq_nil_of_length_eq_zero h.1.symm
theorem rightV_fun (v : EVal) : AFun Tryd.prog 85 [.agg (tVal.enc v)] (.c (.bool (rightVF v))) := fun R w vs hR hG hv => by
  left
  refine ⟨enters_of Tryd.func85 (by decide) rfl _ _, ?_⟩
  obtain ⟨x, r, rfl, ⟨cs, hx, hcs⟩, hr⟩ := vals_one hv
  obtain rfl := vals_nil hr
  obtain ⟨v1, r1, e1, ⟨h1, _⟩, q1⟩ := cons_one (c := .int .i64 v.1) (cs := [.int .i64 v.2]) hcs
  obtain ⟨v2, r2, e2, ⟨h2, _⟩, q2⟩ := cons_one q1
  obtain rfl := nil_one q2
  subst hx
  have hc : cs = (⟨v.1, v.2⟩ : Val).cells := by
    apply Array.toList_inj.1
    rw [e1, e2, h1, h2]; rfl
  subst hc
  exact (right_any ⟨v.1, v.2⟩ w).mono fun e w' ⟨he, hb⟩ => ⟨_, he, hb, rfl⟩
end Go.Proofs.YtefkifdhjabdiaaDoor
namespace Go.Proofs.YtefkifdhjabdiaaDoor
set_option linter.unusedVariables false
set_option linter.unusedSimpArgs false
set_option maxRecDepth 100000
noncomputable def oc7 : Orc where
  pure := fun f args => match f, args with
    | 46, [a0, a1, a2] => match dA tChk a0, dA tExit a1, dA tI a2 with
      | some x0, some x1, some x2 => some (.c (.bool (rightXF x0 x1 x2)))
      | _, _, _ => none
    | 84, [a0, a1, a2] => match dA tChk a0, dA (.slice tI) a1, dA tI a2 with
      | some x0, some x1, some x2 => some (.c (.bool (valuesF x0 x1 x2)))
      | _, _, _ => none
    | 85, [a0] => match dA tVal a0 with
      | some x0 => some (.c (.bool (rightVF x0)))
      | _ => none
    | _, _ => none
  heap := fun _ _ _ => none
def shF (x : EIns) (k : Int) : Bool := if k = 1 then (if x.1 = 19 then true else if x.1 = 9 then decide (x.2.2.2.2.1 = 1) else false) else false
def okV (sh : Bool) (v : Int) : Bool := if sh = true then decide (0 ≤ v) else decide (v = -1)
def restF (x : EIns) (k : Int) : Bool := (decide (0 < k) || okV (shF x 0) x.2.1) && ((decide (1 < k) || okV (shF x 1) x.2.2.1) && (decide (2 < k) || okV (shF x 2) x.2.2.2.1))
theorem restF_ge {x : EIns} {k : Int} (h : 3 ≤ k) : restF x k = true := by
  have h0 : 0 < k := by omega
  have h1 : 1 < k := by omega
  have h2 : 2 < k := by omega
  simp [restF, h0, h1, h2]
theorem restF_step {x : EIns} {k : Int} (h : 0 ≤ k) (h' : k < 3) : restF x k = (okV (shF x k) ([x.2.1, x.2.2.1, x.2.2.2.1].getD k.toNat 0) && restF x (k + 1)) := by
  rcases (show k = 0 ∨ k = 1 ∨ k = 2 by omega) with rfl | rfl | rfl
  · simp [restF]
  · simp [restF]
  · simp [restF]
def kOk (f : EForm) (x : EIns) : Bool := if f.2.2.2.1 = true then rightVF x.2.2.2.2.2.2 else (decide (x.2.2.2.2.2.2.1 = 0) && (decide (x.2.2.2.2.2.2.2 = 0) && true))
def exitOk (c : EChk) (f : EForm) (x : EIns) (at_ : Int) : Bool :=
  if f.2.2.2.2.2 = 0 then decide (x.2.2.2.2.2.1 = -1) else if f.2.2.2.2.2 = 1 then (if x.2.2.2.2.2.1 = -1 then true else if 0 ≤ x.2.2.2.2.2.1 then (if x.2.2.2.2.2.1 < (c.2.2.2.2.2.1.length : Int) then rightXF c (c.2.2.2.2.2.1.getD (Int.toNat x.2.2.2.2.2.1) tExit.dflt) at_ else false) else false)
  else if 0 ≤ x.2.2.2.2.2.1 then (if x.2.2.2.2.2.1 < (c.2.2.2.2.2.1.length : Int) then rightXF c (c.2.2.2.2.2.1.getD (Int.toNat x.2.2.2.2.2.1) tExit.dflt) at_ else false) else false
def refOk (x : EIns) : Bool := if x.1 = 2 then (if x.2.2.2.2.2.2.1 = 5 then false else true) else true
def tail2F (c : EChk) (f : EForm) (x : EIns) (at_ : Int) : Bool := if kOk f x = true then (if refOk x = true then exitOk c f x at_ else false) else false
def regOk (c : EChk) (x : EIns) : Bool := if x.1 = 1 then (if c.1.2.1 ≤ x.2.2.2.2.1 then false else true) else true
def tailF (c : EChk) (f : EForm) (x : EIns) (at_ : Int) : Bool :=
  if x.2.2.2.2.1 < f.2.1 then false else if f.2.2.1 < x.2.2.2.2.1 then false else if regOk c x = true then tail2F c f x at_ else false
def formedF (c : EChk) (f : EForm) (x : EIns) (at_ : Int) : Bool := valuesF c ([x.2.1, x.2.2.1, x.2.2.2.1].take f.1.toNat) at_ && (restF x f.1 && tailF c f x at_)
def formed_lv : LV := ⟨(F2 (false :: true :: true :: true :: true :: F2 (true :: true :: true :: F32 (F32 (F32 (F32 (F16 (F8 ([]))))))))), [8, 10, 12, 14]⟩
noncomputable def formed_T (c : EChk) (f : EForm) (x : EIns) (at_ : Int) : Tree :=
  .need (([0, 0, 0]).length = 3) <|
  .need ((0 : Int) ≤ f.1 ∧ (f.1 : Int) ≤ ((3 : Nat) : Int) ∧ 3 ≤ ([x.2.1, x.2.2.1, x.2.2.2.1]).length) <|
  .need ((Int.toNat f.1) ≤ ([x.2.1, x.2.2.1, x.2.2.2.1]).length) <|
  .call 84 [.agg (Ty.enc tChk c), .c (.ro tI (([x.2.1, x.2.2.1, x.2.2.2.1]).take (Int.toNat f.1))), .c (.int .i64 at_)] true (.c (.bool (valuesF c (([x.2.1, x.2.2.1, x.2.2.2.1]).take (Int.toNat f.1)) at_))) <|
  .ite ((!(valuesF c (([x.2.1, x.2.2.1, x.2.2.2.1]).take (Int.toNat f.1)) at_)))
  (.ret (.c (.lit false)) [.cells 86 (Ty.enc tChk c), .cells 88 (Ty.enc tForm f), .cells 46 (Ty.enc tIns x), .vec 93 tI ([x.2.1, x.2.2.1, x.2.2.2.1])])
  (.stop (lp (bodyOf Tryd.f44) 0) (J2 (.junk :: .c (.int .i64 at_) :: .c (.ptr 0 0 0 0) :: .c (.ptr 1 0 0 0) :: .c (.ptr 2 0 0 0) :: J2 (.c (.ptr 3 0 0 0) :: .c (.int .i64 f.1) :: J32 (J32 (J32 (J32 (J16 (J8 (.junk :: []))))))))) [.cells 86 (Ty.enc tChk c), .cells 88 (Ty.enc tForm f), .cells 46 (Ty.enc tIns x), .vec 93 tI ([x.2.1, x.2.2.1, x.2.2.2.1])])
theorem formed_T_ok (c : EChk) (f : EForm) (x : EIns) (at_ : Int) : aRun Tryd.prog oc7 Tryd.f44 formed_lv 3000 [.code (bodyOf Tryd.f44)] ([.agg (tChk.enc c), .agg (tForm.enc f), .agg (tIns.enc x), .c (.int .i64 at_)] ++ List.replicate (Func.ntmps Tryd.f44 - 4) .junk) [] = formed_T c f x at_ := by kernel_rfl
noncomputable def formed_r14_R (c : EChk) (f : EForm) (x : EIns) (at_ : Int) : Tree :=
  .ite (decide (f.2.2.2.2.2 = 0))
  (.ret (.c (.bool (decide (x.2.2.2.2.2.1 = (-1))))) [.cells 86 (Ty.enc tChk c), .cells 88 (Ty.enc tForm f), .cells 46 (Ty.enc tIns x)])
  (.ite (decide (f.2.2.2.2.2 = 1))
   (.ite (decide (x.2.2.2.2.2.1 = (-1)))
    (.ret (.c (.bool (decide (x.2.2.2.2.2.1 = (-1))))) [.cells 86 (Ty.enc tChk c), .cells 88 (Ty.enc tForm f), .cells 46 (Ty.enc tIns x)])
    (.ite (decide ((0 : Int) ≤ x.2.2.2.2.2.1))
     (.ite (decide (x.2.2.2.2.2.1 < (c.2.2.2.2.2.1.length : Int)))
      (.need ((0 : Int) ≤ x.2.2.2.2.2.1 ∧ (x.2.2.2.2.2.1 : Int) < (c.2.2.2.2.2.1.length : Int)) <|
       .need ((Int.toNat x.2.2.2.2.2.1) < c.2.2.2.2.2.1.length) <|
       .call 46 [.agg (Ty.enc tChk c), .agg [.int .i64 (c.2.2.2.2.2.1.getD (Int.toNat x.2.2.2.2.2.1) tExit.dflt).1, .int .i64 (c.2.2.2.2.2.1.getD (Int.toNat x.2.2.2.2.2.1) tExit.dflt).2.1, .ro tVal (c.2.2.2.2.2.1.getD (Int.toNat x.2.2.2.2.2.1) tExit.dflt).2.2.1, .ro tMake (c.2.2.2.2.2.1.getD (Int.toNat x.2.2.2.2.2.1) tExit.dflt).2.2.2], .c (.int .i64 at_)] false (.c (.bool (rightXF c (c.2.2.2.2.2.1.getD (Int.toNat x.2.2.2.2.2.1) tExit.dflt) at_))) <|
       .ret (.c (.bool (rightXF c (c.2.2.2.2.2.1.getD (Int.toNat x.2.2.2.2.2.1) tExit.dflt) at_))) [.cells 86 (Ty.enc tChk c), .cells 88 (Ty.enc tForm f), .cells 46 (Ty.enc tIns x)])
      (.ret (.c (.lit false)) [.cells 86 (Ty.enc tChk c), .cells 88 (Ty.enc tForm f), .cells 46 (Ty.enc tIns x)]))
     (.ret (.c (.lit false)) [.cells 86 (Ty.enc tChk c), .cells 88 (Ty.enc tForm f), .cells 46 (Ty.enc tIns x)])))
   (.ite (decide ((0 : Int) ≤ x.2.2.2.2.2.1))
    (.ite (decide (x.2.2.2.2.2.1 < (c.2.2.2.2.2.1.length : Int)))
     (.need ((0 : Int) ≤ x.2.2.2.2.2.1 ∧ (x.2.2.2.2.2.1 : Int) < (c.2.2.2.2.2.1.length : Int)) <|
      .need ((Int.toNat x.2.2.2.2.2.1) < c.2.2.2.2.2.1.length) <|
      .call 46 [.agg (Ty.enc tChk c), .agg [.int .i64 (c.2.2.2.2.2.1.getD (Int.toNat x.2.2.2.2.2.1) tExit.dflt).1, .int .i64 (c.2.2.2.2.2.1.getD (Int.toNat x.2.2.2.2.2.1) tExit.dflt).2.1, .ro tVal (c.2.2.2.2.2.1.getD (Int.toNat x.2.2.2.2.2.1) tExit.dflt).2.2.1, .ro tMake (c.2.2.2.2.2.1.getD (Int.toNat x.2.2.2.2.2.1) tExit.dflt).2.2.2], .c (.int .i64 at_)] false (.c (.bool (rightXF c (c.2.2.2.2.2.1.getD (Int.toNat x.2.2.2.2.2.1) tExit.dflt) at_))) <|
      .ret (.c (.bool (rightXF c (c.2.2.2.2.2.1.getD (Int.toNat x.2.2.2.2.2.1) tExit.dflt) at_))) [.cells 86 (Ty.enc tChk c), .cells 88 (Ty.enc tForm f), .cells 46 (Ty.enc tIns x)])
     (.ret (.c (.lit false)) [.cells 86 (Ty.enc tChk c), .cells 88 (Ty.enc tForm f), .cells 46 (Ty.enc tIns x)]))
    (.ret (.c (.lit false)) [.cells 86 (Ty.enc tChk c), .cells 88 (Ty.enc tForm f), .cells 46 (Ty.enc tIns x)])))
theorem formed_r14_R_ok (c : EChk) (f : EForm) (x : EIns) (at_ : Int) : aRound Tryd.prog oc7 Tryd.f44 formed_lv 3000 (rg (bodyOf Tryd.f44) 14) (J2 (.junk :: .c (.int .i64 at_) :: .c (.ptr 0 0 0 0) :: .c (.ptr 1 0 0 0) :: .c (.ptr 2 0 0 0) :: J32 (J32 (J32 (J32 (J16 (J8 (J4 (.junk :: []))))))))) [.cells 86 (Ty.enc tChk c), .cells 88 (Ty.enc tForm f), .cells 46 (Ty.enc tIns x)] = formed_r14_R c f x at_ := by kernel_rfl
noncomputable def formed_r12_R (c : EChk) (f : EForm) (x : EIns) (at_ : Int) : Tree :=
  .ite ((!f.2.2.2.1))
  (.ite ((!(decide (x.2.2.2.2.2.2.1 = 0) && (decide (x.2.2.2.2.2.2.2 = 0) && true))))
   (.ret (.c (.lit false)) [.cells 86 (Ty.enc tChk c), .cells 88 (Ty.enc tForm f), .cells 46 (Ty.enc tIns x)])
   (.ite (f.2.2.2.1)
    (.call 85 [.agg [.int .i64 x.2.2.2.2.2.2.1, .int .i64 x.2.2.2.2.2.2.2]] false (.c (.bool (rightVF x.2.2.2.2.2.2))) <|
     .ite ((!(rightVF x.2.2.2.2.2.2)))
     (.ret (.c (.lit false)) [.cells 86 (Ty.enc tChk c), .cells 88 (Ty.enc tForm f), .cells 46 (Ty.enc tIns x)])
     (.ite (decide (x.1 = 2))
      (.ite (decide (x.2.2.2.2.2.2.1 = 5))
       (.ret (.c (.lit false)) [.cells 86 (Ty.enc tChk c), .cells 88 (Ty.enc tForm f), .cells 46 (Ty.enc tIns x)])
       (.stop (rg (bodyOf Tryd.f44) 14) (J2 (.junk :: .c (.int .i64 at_) :: .c (.ptr 0 0 0 0) :: .c (.ptr 1 0 0 0) :: .c (.ptr 2 0 0 0) :: J32 (J32 (J32 (J32 (J16 (J8 (J4 (.junk :: []))))))))) [.cells 86 (Ty.enc tChk c), .cells 88 (Ty.enc tForm f), .cells 46 (Ty.enc tIns x)]))
      (.stop (rg (bodyOf Tryd.f44) 14) (J2 (.junk :: .c (.int .i64 at_) :: .c (.ptr 0 0 0 0) :: .c (.ptr 1 0 0 0) :: .c (.ptr 2 0 0 0) :: J32 (J32 (J32 (J32 (J16 (J8 (J4 (.junk :: []))))))))) [.cells 86 (Ty.enc tChk c), .cells 88 (Ty.enc tForm f), .cells 46 (Ty.enc tIns x)])))
    (.ite (decide (x.1 = 2))
     (.ite (decide (x.2.2.2.2.2.2.1 = 5))
      (.ret (.c (.lit false)) [.cells 86 (Ty.enc tChk c), .cells 88 (Ty.enc tForm f), .cells 46 (Ty.enc tIns x)])
      (.stop (rg (bodyOf Tryd.f44) 14) (J2 (.junk :: .c (.int .i64 at_) :: .c (.ptr 0 0 0 0) :: .c (.ptr 1 0 0 0) :: .c (.ptr 2 0 0 0) :: J32 (J32 (J32 (J32 (J16 (J8 (J4 (.junk :: []))))))))) [.cells 86 (Ty.enc tChk c), .cells 88 (Ty.enc tForm f), .cells 46 (Ty.enc tIns x)]))
     (.stop (rg (bodyOf Tryd.f44) 14) (J2 (.junk :: .c (.int .i64 at_) :: .c (.ptr 0 0 0 0) :: .c (.ptr 1 0 0 0) :: .c (.ptr 2 0 0 0) :: J32 (J32 (J32 (J32 (J16 (J8 (J4 (.junk :: []))))))))) [.cells 86 (Ty.enc tChk c), .cells 88 (Ty.enc tForm f), .cells 46 (Ty.enc tIns x)]))))
  (.ite (f.2.2.2.1)
   (.call 85 [.agg [.int .i64 x.2.2.2.2.2.2.1, .int .i64 x.2.2.2.2.2.2.2]] false (.c (.bool (rightVF x.2.2.2.2.2.2))) <|
    .ite ((!(rightVF x.2.2.2.2.2.2)))
    (.ret (.c (.lit false)) [.cells 86 (Ty.enc tChk c), .cells 88 (Ty.enc tForm f), .cells 46 (Ty.enc tIns x)])
    (.ite (decide (x.1 = 2))
     (.ite (decide (x.2.2.2.2.2.2.1 = 5))
      (.ret (.c (.lit false)) [.cells 86 (Ty.enc tChk c), .cells 88 (Ty.enc tForm f), .cells 46 (Ty.enc tIns x)])
      (.stop (rg (bodyOf Tryd.f44) 14) (J2 (.junk :: .c (.int .i64 at_) :: .c (.ptr 0 0 0 0) :: .c (.ptr 1 0 0 0) :: .c (.ptr 2 0 0 0) :: J32 (J32 (J32 (J32 (J16 (J8 (J4 (.junk :: []))))))))) [.cells 86 (Ty.enc tChk c), .cells 88 (Ty.enc tForm f), .cells 46 (Ty.enc tIns x)]))
     (.stop (rg (bodyOf Tryd.f44) 14) (J2 (.junk :: .c (.int .i64 at_) :: .c (.ptr 0 0 0 0) :: .c (.ptr 1 0 0 0) :: .c (.ptr 2 0 0 0) :: J32 (J32 (J32 (J32 (J16 (J8 (J4 (.junk :: []))))))))) [.cells 86 (Ty.enc tChk c), .cells 88 (Ty.enc tForm f), .cells 46 (Ty.enc tIns x)])))
   (.ite (decide (x.1 = 2))
    (.ite (decide (x.2.2.2.2.2.2.1 = 5))
     (.ret (.c (.lit false)) [.cells 86 (Ty.enc tChk c), .cells 88 (Ty.enc tForm f), .cells 46 (Ty.enc tIns x)])
     (.stop (rg (bodyOf Tryd.f44) 14) (J2 (.junk :: .c (.int .i64 at_) :: .c (.ptr 0 0 0 0) :: .c (.ptr 1 0 0 0) :: .c (.ptr 2 0 0 0) :: J32 (J32 (J32 (J32 (J16 (J8 (J4 (.junk :: []))))))))) [.cells 86 (Ty.enc tChk c), .cells 88 (Ty.enc tForm f), .cells 46 (Ty.enc tIns x)]))
    (.stop (rg (bodyOf Tryd.f44) 14) (J2 (.junk :: .c (.int .i64 at_) :: .c (.ptr 0 0 0 0) :: .c (.ptr 1 0 0 0) :: .c (.ptr 2 0 0 0) :: J32 (J32 (J32 (J32 (J16 (J8 (J4 (.junk :: []))))))))) [.cells 86 (Ty.enc tChk c), .cells 88 (Ty.enc tForm f), .cells 46 (Ty.enc tIns x)])))
theorem formed_r12_R_ok (c : EChk) (f : EForm) (x : EIns) (at_ : Int) : aRound Tryd.prog oc7 Tryd.f44 formed_lv 3000 (rg (bodyOf Tryd.f44) 12) (J2 (.junk :: .c (.int .i64 at_) :: .c (.ptr 0 0 0 0) :: .c (.ptr 1 0 0 0) :: .c (.ptr 2 0 0 0) :: J32 (J32 (J32 (J32 (J16 (J8 (J4 (.junk :: []))))))))) [.cells 86 (Ty.enc tChk c), .cells 88 (Ty.enc tForm f), .cells 46 (Ty.enc tIns x)] = formed_r12_R c f x at_ := by kernel_rfl
noncomputable def formed_r10_R (c : EChk) (f : EForm) (x : EIns) (at_ : Int) : Tree :=
  .ite (decide (x.2.2.2.2.1 < f.2.1))
  (.ret (.c (.lit false)) [.cells 86 (Ty.enc tChk c), .cells 88 (Ty.enc tForm f), .cells 46 (Ty.enc tIns x)])
  (.ite (decide (f.2.2.1 < x.2.2.2.2.1))
   (.ret (.c (.lit false)) [.cells 86 (Ty.enc tChk c), .cells 88 (Ty.enc tForm f), .cells 46 (Ty.enc tIns x)])
   (.ite (decide (x.1 = 1))
    (.ite (decide (c.1.2.1 ≤ x.2.2.2.2.1))
     (.ret (.c (.lit false)) [.cells 86 (Ty.enc tChk c), .cells 88 (Ty.enc tForm f), .cells 46 (Ty.enc tIns x)])
     (.stop (rg (bodyOf Tryd.f44) 12) (J2 (.junk :: .c (.int .i64 at_) :: .c (.ptr 0 0 0 0) :: .c (.ptr 1 0 0 0) :: .c (.ptr 2 0 0 0) :: J32 (J32 (J32 (J32 (J16 (J8 (J4 (.junk :: []))))))))) [.cells 86 (Ty.enc tChk c), .cells 88 (Ty.enc tForm f), .cells 46 (Ty.enc tIns x)]))
    (.stop (rg (bodyOf Tryd.f44) 12) (J2 (.junk :: .c (.int .i64 at_) :: .c (.ptr 0 0 0 0) :: .c (.ptr 1 0 0 0) :: .c (.ptr 2 0 0 0) :: J32 (J32 (J32 (J32 (J16 (J8 (J4 (.junk :: []))))))))) [.cells 86 (Ty.enc tChk c), .cells 88 (Ty.enc tForm f), .cells 46 (Ty.enc tIns x)])))
theorem formed_r10_R_ok (c : EChk) (f : EForm) (x : EIns) (at_ : Int) : aRound Tryd.prog oc7 Tryd.f44 formed_lv 3000 (rg (bodyOf Tryd.f44) 10) (J2 (.junk :: .c (.int .i64 at_) :: .c (.ptr 0 0 0 0) :: .c (.ptr 1 0 0 0) :: .c (.ptr 2 0 0 0) :: J32 (J32 (J32 (J32 (J16 (J8 (J4 (.junk :: []))))))))) [.cells 86 (Ty.enc tChk c), .cells 88 (Ty.enc tForm f), .cells 46 (Ty.enc tIns x)] = formed_r10_R c f x at_ := by kernel_rfl
noncomputable def formed_r8_R (c : EChk) (f : EForm) (x : EIns) (at_ : Int) (k : Int) (sh : Bool) : Tree :=
  .ite (sh)
  (.need ((0 : Int) ≤ k ∧ (k : Int) < ((3 : Nat) : Int)) <|
   .need ((Int.toNat k) < ([x.2.1, x.2.2.1, x.2.2.2.1]).length) <|
   .ite (decide ((([x.2.1, x.2.2.1, x.2.2.2.1]).getD (Int.toNat k) tI.dflt) < 0))
   (.ret (.c (.lit false)) [.cells 86 (Ty.enc tChk c), .cells 88 (Ty.enc tForm f), .cells 46 (Ty.enc tIns x), .vec 93 tI ([x.2.1, x.2.2.1, x.2.2.2.1])])
   (.ite ((!sh))
    (.need ((0 : Int) ≤ k ∧ (k : Int) < ((3 : Nat) : Int)) <|
     .need ((Int.toNat k) < ([x.2.1, x.2.2.1, x.2.2.2.1]).length) <|
     .ite ((!(decide ((([x.2.1, x.2.2.1, x.2.2.2.1]).getD (Int.toNat k) tI.dflt) = (-1)))))
     (.ret (.c (.lit false)) [.cells 86 (Ty.enc tChk c), .cells 88 (Ty.enc tForm f), .cells 46 (Ty.enc tIns x), .vec 93 tI ([x.2.1, x.2.2.1, x.2.2.2.1])])
     (.need (inR .i64 (k + 1)) <|
      .stop (lp (bodyOf Tryd.f44) 0) (J2 (.junk :: .c (.int .i64 at_) :: .c (.ptr 0 0 0 0) :: .c (.ptr 1 0 0 0) :: .c (.ptr 2 0 0 0) :: J2 (.c (.ptr 3 0 0 0) :: .c (.int .i64 (k + 1)) :: .c (.bool sh) :: J32 (J32 (J32 (J32 (J16 (J8 ([]))))))))) [.cells 86 (Ty.enc tChk c), .cells 88 (Ty.enc tForm f), .cells 46 (Ty.enc tIns x), .vec 93 tI ([x.2.1, x.2.2.1, x.2.2.2.1])]))
    (.need (inR .i64 (k + 1)) <|
     .stop (lp (bodyOf Tryd.f44) 0) (J2 (.junk :: .c (.int .i64 at_) :: .c (.ptr 0 0 0 0) :: .c (.ptr 1 0 0 0) :: .c (.ptr 2 0 0 0) :: J2 (.c (.ptr 3 0 0 0) :: .c (.int .i64 (k + 1)) :: .c (.bool sh) :: J32 (J32 (J32 (J32 (J16 (J8 ([]))))))))) [.cells 86 (Ty.enc tChk c), .cells 88 (Ty.enc tForm f), .cells 46 (Ty.enc tIns x), .vec 93 tI ([x.2.1, x.2.2.1, x.2.2.2.1])])))
  (.ite ((!sh))
   (.need ((0 : Int) ≤ k ∧ (k : Int) < ((3 : Nat) : Int)) <|
    .need ((Int.toNat k) < ([x.2.1, x.2.2.1, x.2.2.2.1]).length) <|
    .ite ((!(decide ((([x.2.1, x.2.2.1, x.2.2.2.1]).getD (Int.toNat k) tI.dflt) = (-1)))))
    (.ret (.c (.lit false)) [.cells 86 (Ty.enc tChk c), .cells 88 (Ty.enc tForm f), .cells 46 (Ty.enc tIns x), .vec 93 tI ([x.2.1, x.2.2.1, x.2.2.2.1])])
    (.need (inR .i64 (k + 1)) <|
     .stop (lp (bodyOf Tryd.f44) 0) (J2 (.junk :: .c (.int .i64 at_) :: .c (.ptr 0 0 0 0) :: .c (.ptr 1 0 0 0) :: .c (.ptr 2 0 0 0) :: J2 (.c (.ptr 3 0 0 0) :: .c (.int .i64 (k + 1)) :: .c (.bool sh) :: J32 (J32 (J32 (J32 (J16 (J8 ([]))))))))) [.cells 86 (Ty.enc tChk c), .cells 88 (Ty.enc tForm f), .cells 46 (Ty.enc tIns x), .vec 93 tI ([x.2.1, x.2.2.1, x.2.2.2.1])]))
   (.need (inR .i64 (k + 1)) <|
    .stop (lp (bodyOf Tryd.f44) 0) (J2 (.junk :: .c (.int .i64 at_) :: .c (.ptr 0 0 0 0) :: .c (.ptr 1 0 0 0) :: .c (.ptr 2 0 0 0) :: J2 (.c (.ptr 3 0 0 0) :: .c (.int .i64 (k + 1)) :: .c (.bool sh) :: J32 (J32 (J32 (J32 (J16 (J8 ([]))))))))) [.cells 86 (Ty.enc tChk c), .cells 88 (Ty.enc tForm f), .cells 46 (Ty.enc tIns x), .vec 93 tI ([x.2.1, x.2.2.1, x.2.2.2.1])]))
theorem formed_r8_R_ok (c : EChk) (f : EForm) (x : EIns) (at_ : Int) (k : Int) (sh : Bool) : aRound Tryd.prog oc7 Tryd.f44 formed_lv 3000 (rg (bodyOf Tryd.f44) 8) (J2 (.junk :: .c (.int .i64 at_) :: .c (.ptr 0 0 0 0) :: .c (.ptr 1 0 0 0) :: .c (.ptr 2 0 0 0) :: J2 (.c (.ptr 3 0 0 0) :: .c (.int .i64 k) :: .c (.bool sh) :: J32 (J32 (J32 (J32 (J16 (J8 ([]))))))))) [.cells 86 (Ty.enc tChk c), .cells 88 (Ty.enc tForm f), .cells 46 (Ty.enc tIns x), .vec 93 tI ([x.2.1, x.2.2.1, x.2.2.2.1])] = formed_r8_R c f x at_ k sh := by kernel_rfl
noncomputable def formed_l0_R (c : EChk) (f : EForm) (x : EIns) (at_ : Int) (k : Int) : Tree :=
  .ite (decide (k < 3))
  (.ite (decide (k = 1))
   (.ite (decide (x.1 = 19))
    (.stop (rg (bodyOf Tryd.f44) 8) (J2 (.junk :: .c (.int .i64 at_) :: .c (.ptr 0 0 0 0) :: .c (.ptr 1 0 0 0) :: .c (.ptr 2 0 0 0) :: J2 (.c (.ptr 3 0 0 0) :: .c (.int .i64 k) :: .c (.lit true) :: J32 (J32 (J32 (J32 (J16 (J8 ([]))))))))) [.cells 86 (Ty.enc tChk c), .cells 88 (Ty.enc tForm f), .cells 46 (Ty.enc tIns x), .vec 93 tI ([x.2.1, x.2.2.1, x.2.2.2.1])])
    (.ite (decide (x.1 = 9))
     (.stop (rg (bodyOf Tryd.f44) 8) (J2 (.junk :: .c (.int .i64 at_) :: .c (.ptr 0 0 0 0) :: .c (.ptr 1 0 0 0) :: .c (.ptr 2 0 0 0) :: J2 (.c (.ptr 3 0 0 0) :: .c (.int .i64 k) :: .c (.bool (decide (x.2.2.2.2.1 = 1))) :: J32 (J32 (J32 (J32 (J16 (J8 ([]))))))))) [.cells 86 (Ty.enc tChk c), .cells 88 (Ty.enc tForm f), .cells 46 (Ty.enc tIns x), .vec 93 tI ([x.2.1, x.2.2.1, x.2.2.2.1])])
     (.stop (rg (bodyOf Tryd.f44) 8) (J2 (.junk :: .c (.int .i64 at_) :: .c (.ptr 0 0 0 0) :: .c (.ptr 1 0 0 0) :: .c (.ptr 2 0 0 0) :: J2 (.c (.ptr 3 0 0 0) :: .c (.int .i64 k) :: .c (.lit false) :: J32 (J32 (J32 (J32 (J16 (J8 ([]))))))))) [.cells 86 (Ty.enc tChk c), .cells 88 (Ty.enc tForm f), .cells 46 (Ty.enc tIns x), .vec 93 tI ([x.2.1, x.2.2.1, x.2.2.2.1])])))
   (.stop (rg (bodyOf Tryd.f44) 8) (J2 (.junk :: .c (.int .i64 at_) :: .c (.ptr 0 0 0 0) :: .c (.ptr 1 0 0 0) :: .c (.ptr 2 0 0 0) :: J2 (.c (.ptr 3 0 0 0) :: .c (.int .i64 k) :: .c (.lit false) :: J32 (J32 (J32 (J32 (J16 (J8 ([]))))))))) [.cells 86 (Ty.enc tChk c), .cells 88 (Ty.enc tForm f), .cells 46 (Ty.enc tIns x), .vec 93 tI ([x.2.1, x.2.2.1, x.2.2.2.1])]))
  (.stop (rg (bodyOf Tryd.f44) 10) (J2 (.junk :: .c (.int .i64 at_) :: .c (.ptr 0 0 0 0) :: .c (.ptr 1 0 0 0) :: .c (.ptr 2 0 0 0) :: J2 (.c (.ptr 3 0 0 0) :: .c (.int .i64 k) :: J32 (J32 (J32 (J32 (J16 (J8 (.junk :: []))))))))) [.cells 86 (Ty.enc tChk c), .cells 88 (Ty.enc tForm f), .cells 46 (Ty.enc tIns x), .vec 93 tI ([x.2.1, x.2.2.1, x.2.2.2.1])])
theorem formed_l0_R_ok (c : EChk) (f : EForm) (x : EIns) (at_ : Int) (k : Int) : aRound Tryd.prog oc7 Tryd.f44 formed_lv 3000 (lp (bodyOf Tryd.f44) 0) (J2 (.junk :: .c (.int .i64 at_) :: .c (.ptr 0 0 0 0) :: .c (.ptr 1 0 0 0) :: .c (.ptr 2 0 0 0) :: J2 (.c (.ptr 3 0 0 0) :: .c (.int .i64 k) :: J32 (J32 (J32 (J32 (J16 (J8 (.junk :: []))))))))) [.cells 86 (Ty.enc tChk c), .cells 88 (Ty.enc tForm f), .cells 46 (Ty.enc tIns x), .vec 93 tI ([x.2.1, x.2.2.1, x.2.2.2.1])] = formed_l0_R c f x at_ k := by kernel_rfl
theorem formed_r14 (c : EChk) (f : EForm) (x : EIns) (at_ : Int)  : Run Tryd.prog 44 (retQ Tryd.prog (.c (.bool (exitOk c f x at_)))) (rg (bodyOf Tryd.f44) 14) (J2 (.junk :: .c (.int .i64 at_) :: .c (.ptr 0 0 0 0) :: .c (.ptr 1 0 0 0) :: .c (.ptr 2 0 0 0) :: J32 (J32 (J32 (J32 (J16 (J8 (J4 (.junk :: []))))))))) [.cells 86 (Ty.enc tChk c), .cells 88 (Ty.enc tForm f), .cells 46 (Ty.enc tIns x)] :=
  Run.roundA oc7 formed_lv 3000 Tryd.func44 mixed (formed_r14_R c f x at_) (formed_r14_R_ok c f x at_) (by
    unfold formed_r14_R
    refine g_iteD (fun h0 => ?_) (fun h0 => ?_)
    · exact g_retb (by first | (simp only [exitOk, h0, if_true, if_false, Bool.false_eq_true, reduceCtorEq, Int.reduceEq, Int.reduceNeg, decide_true, Bool.not_true, Bool.not_false]; done) | (simp_all [exitOk]; done))
    · refine g_iteD (fun h1 => ?_) (fun h1 => ?_)
      · refine g_iteD (fun h2 => ?_) (fun h2 => ?_)
        · exact g_retb (by first | (simp only [exitOk, h0, h1, h2, if_true, if_false, Bool.false_eq_true, reduceCtorEq, Int.reduceEq, Int.reduceNeg, decide_true, Bool.not_true, Bool.not_false]; done) | (simp_all [exitOk]; done))
        · refine g_iteD (fun h3 => ?_) (fun h3 => ?_)
          · refine g_iteD (fun h4 => ?_) (fun h4 => ?_)
            · refine g_need (by first | omega | (constructor <;> omega) | (refine ⟨?_, ?_, ?_⟩ <;> simp <;> omega) | (rw [i64_iff]; omega) | (simp; omega)) ?_
              refine g_need (by first | omega | (constructor <;> omega) | (refine ⟨?_, ?_, ?_⟩ <;> simp <;> omega) | (rw [i64_iff]; omega) | (simp; omega)) ?_
              refine g_call (rightX_fun c (c.2.2.2.2.2.1.getD (Int.toNat x.2.2.2.2.2.1) tExit.dflt) at_) (fun h => nomatch h) ?_
              exact g_retb (by first | (simp only [exitOk, h0, h1, h2, h3, h4, if_true, if_false, Bool.false_eq_true, reduceCtorEq, Int.reduceEq, Int.reduceNeg, decide_true, Bool.not_true, Bool.not_false]; done) | (simp_all [exitOk]; done))
            · exact g_retl (by first | (simp only [exitOk, h0, h1, h2, h3, h4, if_true, if_false, Bool.false_eq_true, reduceCtorEq, Int.reduceEq, Int.reduceNeg, decide_true, Bool.not_true, Bool.not_false]; done) | (simp_all [exitOk]; done))
          · exact g_retl (by first | (simp only [exitOk, h0, h1, h2, h3, if_true, if_false, Bool.false_eq_true, reduceCtorEq, Int.reduceEq, Int.reduceNeg, decide_true, Bool.not_true, Bool.not_false]; done) | (simp_all [exitOk]; done))
      · refine g_iteD (fun h2 => ?_) (fun h2 => ?_)
        · refine g_iteD (fun h3 => ?_) (fun h3 => ?_)
          · refine g_need (by first | omega | (constructor <;> omega) | (refine ⟨?_, ?_, ?_⟩ <;> simp <;> omega) | (rw [i64_iff]; omega) | (simp; omega)) ?_
            refine g_need (by first | omega | (constructor <;> omega) | (refine ⟨?_, ?_, ?_⟩ <;> simp <;> omega) | (rw [i64_iff]; omega) | (simp; omega)) ?_
            refine g_call (rightX_fun c (c.2.2.2.2.2.1.getD (Int.toNat x.2.2.2.2.2.1) tExit.dflt) at_) (fun h => nomatch h) ?_
            exact g_retb (by first | (simp only [exitOk, h0, h1, h2, h3, if_true, if_false, Bool.false_eq_true, reduceCtorEq, Int.reduceEq, Int.reduceNeg, decide_true, Bool.not_true, Bool.not_false]; done) | (simp_all [exitOk]; done))
          · exact g_retl (by first | (simp only [exitOk, h0, h1, h2, h3, if_true, if_false, Bool.false_eq_true, reduceCtorEq, Int.reduceEq, Int.reduceNeg, decide_true, Bool.not_true, Bool.not_false]; done) | (simp_all [exitOk]; done))
        · exact g_retl (by first | (simp only [exitOk, h0, h1, h2, if_true, if_false, Bool.false_eq_true, reduceCtorEq, Int.reduceEq, Int.reduceNeg, decide_true, Bool.not_true, Bool.not_false]; done) | (simp_all [exitOk]; done))
    )
theorem formed_r12 (c : EChk) (f : EForm) (x : EIns) (at_ : Int)  : Run Tryd.prog 44 (retQ Tryd.prog (.c (.bool (tail2F c f x at_)))) (rg (bodyOf Tryd.f44) 12) (J2 (.junk :: .c (.int .i64 at_) :: .c (.ptr 0 0 0 0) :: .c (.ptr 1 0 0 0) :: .c (.ptr 2 0 0 0) :: J32 (J32 (J32 (J32 (J16 (J8 (J4 (.junk :: []))))))))) [.cells 86 (Ty.enc tChk c), .cells 88 (Ty.enc tForm f), .cells 46 (Ty.enc tIns x)] :=
  Run.roundA oc7 formed_lv 3000 Tryd.func44 mixed (formed_r12_R c f x at_) (formed_r12_R_ok c f x at_) (by
    unfold formed_r12_R
    refine g_iteN (fun h0 => ?_) (fun h0 => ?_)
    · refine g_iteN (fun h1 => ?_) (fun h1 => ?_)
      · exact g_retl (by first | (simp only [tail2F, kOk, refOk, h0, h1, if_true, if_false, Bool.false_eq_true, reduceCtorEq, Int.reduceEq, Int.reduceNeg, decide_true, Bool.not_true, Bool.not_false]; done) | (simp_all [tail2F, kOk, refOk]; done))
      · refine g_ite (fun h2 => ?_) (fun h2 => ?_)
        · refine g_call (rightV_fun x.2.2.2.2.2.2) (fun h => nomatch h) ?_
          refine g_iteN (fun h3 => ?_) (fun h3 => ?_)
          · exact g_retl (by first | (simp only [tail2F, kOk, refOk, h0, h1, h2, h3, if_true, if_false, Bool.false_eq_true, reduceCtorEq, Int.reduceEq, Int.reduceNeg, decide_true, Bool.not_true, Bool.not_false]; done) | (simp_all [tail2F, kOk, refOk]; done))
          · refine g_iteD (fun h4 => ?_) (fun h4 => ?_)
            · refine g_iteD (fun h5 => ?_) (fun h5 => ?_)
              · exact g_retl (by first | (simp only [tail2F, kOk, refOk, h0, h1, h2, h3, h4, h5, if_true, if_false, Bool.false_eq_true, reduceCtorEq, Int.reduceEq, Int.reduceNeg, decide_true, Bool.not_true, Bool.not_false]; done) | (simp_all [tail2F, kOk, refOk]; done))
              · refine g_stop (RunN.keep [0, 1, 2] (F2 (false :: true :: true :: true :: true :: F32 (F32 (F32 (F32 (F16 (F8 (F4 (false :: []))))))))) n0 (by decide) rfl rfl ?_)
                have ht := formed_r14 c f x at_; first | (simp only [tail2F, kOk, refOk, h0, h1, h2, h3, h4, h5, if_true, if_false, Bool.false_eq_true, reduceCtorEq, Int.reduceEq, Int.reduceNeg, decide_true, Bool.not_true, Bool.not_false]; exact ht) | (exfalso; simp_all; done)
            · refine g_stop (RunN.keep [0, 1, 2] (F2 (false :: true :: true :: true :: true :: F32 (F32 (F32 (F32 (F16 (F8 (F4 (false :: []))))))))) n0 (by decide) rfl rfl ?_)
              have ht := formed_r14 c f x at_; first | (simp only [tail2F, kOk, refOk, h0, h1, h2, h3, h4, if_true, if_false, Bool.false_eq_true, reduceCtorEq, Int.reduceEq, Int.reduceNeg, decide_true, Bool.not_true, Bool.not_false]; exact ht) | (exfalso; simp_all; done)
        · refine g_iteD (fun h3 => ?_) (fun h3 => ?_)
          · refine g_iteD (fun h4 => ?_) (fun h4 => ?_)
            · exact g_retl (by first | (simp only [tail2F, kOk, refOk, h0, h1, h2, h3, h4, if_true, if_false, Bool.false_eq_true, reduceCtorEq, Int.reduceEq, Int.reduceNeg, decide_true, Bool.not_true, Bool.not_false]; done) | (simp_all [tail2F, kOk, refOk]; done))
            · refine g_stop (RunN.keep [0, 1, 2] (F2 (false :: true :: true :: true :: true :: F32 (F32 (F32 (F32 (F16 (F8 (F4 (false :: []))))))))) n0 (by decide) rfl rfl ?_)
              have ht := formed_r14 c f x at_; first | (simp only [tail2F, kOk, refOk, h0, h1, h2, h3, h4, if_true, if_false, Bool.false_eq_true, reduceCtorEq, Int.reduceEq, Int.reduceNeg, decide_true, Bool.not_true, Bool.not_false]; exact ht) | (exfalso; simp_all; done)
          · refine g_stop (RunN.keep [0, 1, 2] (F2 (false :: true :: true :: true :: true :: F32 (F32 (F32 (F32 (F16 (F8 (F4 (false :: []))))))))) n0 (by decide) rfl rfl ?_)
            have ht := formed_r14 c f x at_; first | (simp only [tail2F, kOk, refOk, h0, h1, h2, h3, if_true, if_false, Bool.false_eq_true, reduceCtorEq, Int.reduceEq, Int.reduceNeg, decide_true, Bool.not_true, Bool.not_false]; exact ht) | (exfalso; simp_all; done)
    · refine g_ite (fun h1 => ?_) (fun h1 => ?_)
      · refine g_call (rightV_fun x.2.2.2.2.2.2) (fun h => nomatch h) ?_
        refine g_iteN (fun h2 => ?_) (fun h2 => ?_)
        · exact g_retl (by first | (simp only [tail2F, kOk, refOk, h0, h1, h2, if_true, if_false, Bool.false_eq_true, reduceCtorEq, Int.reduceEq, Int.reduceNeg, decide_true, Bool.not_true, Bool.not_false]; done) | (simp_all [tail2F, kOk, refOk]; done))
        · refine g_iteD (fun h3 => ?_) (fun h3 => ?_)
          · refine g_iteD (fun h4 => ?_) (fun h4 => ?_)
            · exact g_retl (by first | (simp only [tail2F, kOk, refOk, h0, h1, h2, h3, h4, if_true, if_false, Bool.false_eq_true, reduceCtorEq, Int.reduceEq, Int.reduceNeg, decide_true, Bool.not_true, Bool.not_false]; done) | (simp_all [tail2F, kOk, refOk]; done))
            · refine g_stop (RunN.keep [0, 1, 2] (F2 (false :: true :: true :: true :: true :: F32 (F32 (F32 (F32 (F16 (F8 (F4 (false :: []))))))))) n0 (by decide) rfl rfl ?_)
              have ht := formed_r14 c f x at_; first | (simp only [tail2F, kOk, refOk, h0, h1, h2, h3, h4, if_true, if_false, Bool.false_eq_true, reduceCtorEq, Int.reduceEq, Int.reduceNeg, decide_true, Bool.not_true, Bool.not_false]; exact ht) | (exfalso; simp_all; done)
          · refine g_stop (RunN.keep [0, 1, 2] (F2 (false :: true :: true :: true :: true :: F32 (F32 (F32 (F32 (F16 (F8 (F4 (false :: []))))))))) n0 (by decide) rfl rfl ?_)
            have ht := formed_r14 c f x at_; first | (simp only [tail2F, kOk, refOk, h0, h1, h2, h3, if_true, if_false, Bool.false_eq_true, reduceCtorEq, Int.reduceEq, Int.reduceNeg, decide_true, Bool.not_true, Bool.not_false]; exact ht) | (exfalso; simp_all; done)
      · refine g_iteD (fun h2 => ?_) (fun h2 => ?_)
        · refine g_iteD (fun h3 => ?_) (fun h3 => ?_)
          · exact g_retl (by first | (simp only [tail2F, kOk, refOk, h0, h1, h2, h3, if_true, if_false, Bool.false_eq_true, reduceCtorEq, Int.reduceEq, Int.reduceNeg, decide_true, Bool.not_true, Bool.not_false]; done) | (simp_all [tail2F, kOk, refOk]; done))
          · refine g_stop (RunN.keep [0, 1, 2] (F2 (false :: true :: true :: true :: true :: F32 (F32 (F32 (F32 (F16 (F8 (F4 (false :: []))))))))) n0 (by decide) rfl rfl ?_)
            have ht := formed_r14 c f x at_; first | (simp only [tail2F, kOk, refOk, h0, h1, h2, h3, if_true, if_false, Bool.false_eq_true, reduceCtorEq, Int.reduceEq, Int.reduceNeg, decide_true, Bool.not_true, Bool.not_false]; exact ht) | (exfalso; simp_all; done)
        · refine g_stop (RunN.keep [0, 1, 2] (F2 (false :: true :: true :: true :: true :: F32 (F32 (F32 (F32 (F16 (F8 (F4 (false :: []))))))))) n0 (by decide) rfl rfl ?_)
          have ht := formed_r14 c f x at_; first | (simp only [tail2F, kOk, refOk, h0, h1, h2, if_true, if_false, Bool.false_eq_true, reduceCtorEq, Int.reduceEq, Int.reduceNeg, decide_true, Bool.not_true, Bool.not_false]; exact ht) | (exfalso; simp_all; done)
    )
theorem formed_r10 (c : EChk) (f : EForm) (x : EIns) (at_ : Int)  : Run Tryd.prog 44 (retQ Tryd.prog (.c (.bool (tailF c f x at_)))) (rg (bodyOf Tryd.f44) 10) (J2 (.junk :: .c (.int .i64 at_) :: .c (.ptr 0 0 0 0) :: .c (.ptr 1 0 0 0) :: .c (.ptr 2 0 0 0) :: J32 (J32 (J32 (J32 (J16 (J8 (J4 (.junk :: []))))))))) [.cells 86 (Ty.enc tChk c), .cells 88 (Ty.enc tForm f), .cells 46 (Ty.enc tIns x)] :=
  Run.roundA oc7 formed_lv 3000 Tryd.func44 mixed (formed_r10_R c f x at_) (formed_r10_R_ok c f x at_) (by
    unfold formed_r10_R
    refine g_iteD (fun h0 => ?_) (fun h0 => ?_)
    · exact g_retl (by first | (simp only [tailF, regOk, h0, if_true, if_false, Bool.false_eq_true, reduceCtorEq, Int.reduceEq, Int.reduceNeg, decide_true, Bool.not_true, Bool.not_false]; done) | (simp_all [tailF, regOk]; done))
    · refine g_iteD (fun h1 => ?_) (fun h1 => ?_)
      · exact g_retl (by first | (simp only [tailF, regOk, h0, h1, if_true, if_false, Bool.false_eq_true, reduceCtorEq, Int.reduceEq, Int.reduceNeg, decide_true, Bool.not_true, Bool.not_false]; done) | (simp_all [tailF, regOk]; done))
      · refine g_iteD (fun h2 => ?_) (fun h2 => ?_)
        · refine g_iteD (fun h3 => ?_) (fun h3 => ?_)
          · exact g_retl (by first | (simp only [tailF, regOk, h0, h1, h2, h3, if_true, if_false, Bool.false_eq_true, reduceCtorEq, Int.reduceEq, Int.reduceNeg, decide_true, Bool.not_true, Bool.not_false]; done) | (simp_all [tailF, regOk]; done))
          · refine g_stop (RunN.keep [0, 1, 2] (F2 (false :: true :: true :: true :: true :: F32 (F32 (F32 (F32 (F16 (F8 (F4 (false :: []))))))))) n0 (by decide) rfl rfl ?_)
            have ht := formed_r12 c f x at_; first | (simp only [tailF, regOk, h0, h1, h2, h3, if_true, if_false, Bool.false_eq_true, reduceCtorEq, Int.reduceEq, Int.reduceNeg, decide_true, Bool.not_true, Bool.not_false]; exact ht) | (exfalso; simp_all; done)
        · refine g_stop (RunN.keep [0, 1, 2] (F2 (false :: true :: true :: true :: true :: F32 (F32 (F32 (F32 (F16 (F8 (F4 (false :: []))))))))) n0 (by decide) rfl rfl ?_)
          have ht := formed_r12 c f x at_; first | (simp only [tailF, regOk, h0, h1, h2, if_true, if_false, Bool.false_eq_true, reduceCtorEq, Int.reduceEq, Int.reduceNeg, decide_true, Bool.not_true, Bool.not_false]; exact ht) | (exfalso; simp_all; done)
    )
theorem formed_r8 (c : EChk) (f : EForm) (x : EIns) (at_ : Int) (k : Int) (sh : Bool) (hk : 0 ≤ k ∧ k < 3) (hn : Run Tryd.prog 44 (retQ Tryd.prog (.c (.bool (restF x (k + 1) && tailF c f x at_)))) (lp (bodyOf Tryd.f44) 0) (J2 (.junk :: .c (.int .i64 at_) :: .c (.ptr 0 0 0 0) :: .c (.ptr 1 0 0 0) :: .c (.ptr 2 0 0 0) :: J2 (.c (.ptr 3 0 0 0) :: .c (.int .i64 (k + 1)) :: J32 (J32 (J32 (J32 (J16 (J8 (.junk :: []))))))))) [.cells 86 (Ty.enc tChk c), .cells 88 (Ty.enc tForm f), .cells 46 (Ty.enc tIns x), .vec 93 tI ([x.2.1, x.2.2.1, x.2.2.2.1])]) : Run Tryd.prog 44 (retQ Tryd.prog (.c (.bool (okV sh ([x.2.1, x.2.2.1, x.2.2.2.1].getD k.toNat tI.dflt) && (restF x (k + 1) && tailF c f x at_))))) (rg (bodyOf Tryd.f44) 8) (J2 (.junk :: .c (.int .i64 at_) :: .c (.ptr 0 0 0 0) :: .c (.ptr 1 0 0 0) :: .c (.ptr 2 0 0 0) :: J2 (.c (.ptr 3 0 0 0) :: .c (.int .i64 k) :: .c (.bool sh) :: J32 (J32 (J32 (J32 (J16 (J8 ([]))))))))) [.cells 86 (Ty.enc tChk c), .cells 88 (Ty.enc tForm f), .cells 46 (Ty.enc tIns x), .vec 93 tI ([x.2.1, x.2.2.1, x.2.2.2.1])] :=
  Run.roundA oc7 formed_lv 3000 Tryd.func44 mixed (formed_r8_R c f x at_ k sh) (formed_r8_R_ok c f x at_ k sh) (by
    unfold formed_r8_R
    refine g_ite (fun h0 => ?_) (fun h0 => ?_)
    · refine g_need (by first | omega | (constructor <;> omega) | (refine ⟨?_, ?_, ?_⟩ <;> simp <;> omega) | (rw [i64_iff]; omega) | (simp; omega)) ?_
      refine g_need (by first | omega | (constructor <;> omega) | (refine ⟨?_, ?_, ?_⟩ <;> simp <;> omega) | (rw [i64_iff]; omega) | (simp; omega)) ?_
      refine g_iteD (fun h1 => ?_) (fun h1 => ?_)
      · exact g_retl (by first | (exfalso; simp_all; done) | (exfalso; omega) | (simp only [okV, h0, h1, if_true, if_false, Bool.false_eq_true, decide_false, Bool.false_and]; done) | (have q := hk; simp_all [okV]; omega))
      · refine g_iteN (fun h2 => ?_) (fun h2 => ?_)
        · refine g_need (by first | omega | (constructor <;> omega) | (refine ⟨?_, ?_, ?_⟩ <;> simp <;> omega) | (rw [i64_iff]; omega) | (simp; omega)) ?_
          refine g_need (by first | omega | (constructor <;> omega) | (refine ⟨?_, ?_, ?_⟩ <;> simp <;> omega) | (rw [i64_iff]; omega) | (simp; omega)) ?_
          refine g_iteND (fun h3 => ?_) (fun h3 => ?_)
          · exact g_retl (by first | (exfalso; simp_all; done) | (exfalso; omega) | (simp only [okV, h0, h1, h2, h3, if_true, if_false, Bool.false_eq_true, decide_false, Bool.false_and]; done) | (have q := hk; simp_all [okV]; omega))
          · refine g_need (by first | omega | (constructor <;> omega) | (refine ⟨?_, ?_, ?_⟩ <;> simp <;> omega) | (rw [i64_iff]; omega) | (simp; omega)) ?_
            refine g_stop (RunN.keep [0, 1, 2, 3] (F2 (false :: true :: true :: true :: true :: F2 (true :: true :: F32 (F32 (F32 (F32 (F16 (F8 (false :: []))))))))) n0 (by decide) rfl rfl ?_)
            first | (exfalso; simp_all; done) | (simp only [okV, h0, h1, h2, h3, if_true, if_false, Bool.false_eq_true, decide_true, Bool.true_and]; exact hn) | (have e : okV sh ([x.2.1, x.2.2.1, x.2.2.2.1].getD k.toNat tI.dflt) = true := (by simp only [okV, h0, h1, h2, h3, if_true, if_false, Bool.false_eq_true]; exact decide_eq_true (by omega)); simp only [h0, h1, h2, h3] at e; simp only [h0, h1, h2, h3, e, Bool.true_and]; exact hn)
        · refine g_need (by first | omega | (constructor <;> omega) | (refine ⟨?_, ?_, ?_⟩ <;> simp <;> omega) | (rw [i64_iff]; omega) | (simp; omega)) ?_
          refine g_stop (RunN.keep [0, 1, 2, 3] (F2 (false :: true :: true :: true :: true :: F2 (true :: true :: F32 (F32 (F32 (F32 (F16 (F8 (false :: []))))))))) n0 (by decide) rfl rfl ?_)
          first | (exfalso; simp_all; done) | (simp only [okV, h0, h1, h2, if_true, if_false, Bool.false_eq_true, decide_true, Bool.true_and]; exact hn) | (have e : okV sh ([x.2.1, x.2.2.1, x.2.2.2.1].getD k.toNat tI.dflt) = true := (by simp only [okV, h0, h1, h2, if_true, if_false, Bool.false_eq_true]; exact decide_eq_true (by omega)); simp only [h0, h1, h2] at e; simp only [h0, h1, h2, e, Bool.true_and]; exact hn)
    · refine g_iteN (fun h1 => ?_) (fun h1 => ?_)
      · refine g_need (by first | omega | (constructor <;> omega) | (refine ⟨?_, ?_, ?_⟩ <;> simp <;> omega) | (rw [i64_iff]; omega) | (simp; omega)) ?_
        refine g_need (by first | omega | (constructor <;> omega) | (refine ⟨?_, ?_, ?_⟩ <;> simp <;> omega) | (rw [i64_iff]; omega) | (simp; omega)) ?_
        refine g_iteND (fun h2 => ?_) (fun h2 => ?_)
        · exact g_retl (by first | (exfalso; simp_all; done) | (exfalso; omega) | (simp only [okV, h0, h1, h2, if_true, if_false, Bool.false_eq_true, decide_false, Bool.false_and]; done) | (have q := hk; simp_all [okV]; omega))
        · refine g_need (by first | omega | (constructor <;> omega) | (refine ⟨?_, ?_, ?_⟩ <;> simp <;> omega) | (rw [i64_iff]; omega) | (simp; omega)) ?_
          refine g_stop (RunN.keep [0, 1, 2, 3] (F2 (false :: true :: true :: true :: true :: F2 (true :: true :: F32 (F32 (F32 (F32 (F16 (F8 (false :: []))))))))) n0 (by decide) rfl rfl ?_)
          first | (exfalso; simp_all; done) | (simp only [okV, h0, h1, h2, if_true, if_false, Bool.false_eq_true, decide_true, Bool.true_and]; exact hn) | (have e : okV sh ([x.2.1, x.2.2.1, x.2.2.2.1].getD k.toNat tI.dflt) = true := (by simp only [okV, h0, h1, h2, if_true, if_false, Bool.false_eq_true]; exact decide_eq_true (by omega)); simp only [h0, h1, h2] at e; simp only [h0, h1, h2, e, Bool.true_and]; exact hn)
      · refine g_need (by first | omega | (constructor <;> omega) | (refine ⟨?_, ?_, ?_⟩ <;> simp <;> omega) | (rw [i64_iff]; omega) | (simp; omega)) ?_
        refine g_stop (RunN.keep [0, 1, 2, 3] (F2 (false :: true :: true :: true :: true :: F2 (true :: true :: F32 (F32 (F32 (F32 (F16 (F8 (false :: []))))))))) n0 (by decide) rfl rfl ?_)
        first | (exfalso; simp_all; done) | (simp only [okV, h0, h1, if_true, if_false, Bool.false_eq_true, decide_true, Bool.true_and]; exact hn) | (have e : okV sh ([x.2.1, x.2.2.1, x.2.2.2.1].getD k.toNat tI.dflt) = true := (by simp only [okV, h0, h1, if_true, if_false, Bool.false_eq_true]; exact decide_eq_true (by omega)); simp only [h0, h1] at e; simp only [h0, h1, e, Bool.true_and]; exact hn)
    )
theorem formed_l0 (c : EChk) (f : EForm) (x : EIns) (at_ : Int) (k : Int) (hk : 0 ≤ k) : Run Tryd.prog 44 (retQ Tryd.prog (.c (.bool (restF x k && tailF c f x at_)))) (lp (bodyOf Tryd.f44) 0) (J2 (.junk :: .c (.int .i64 at_) :: .c (.ptr 0 0 0 0) :: .c (.ptr 1 0 0 0) :: .c (.ptr 2 0 0 0) :: J2 (.c (.ptr 3 0 0 0) :: .c (.int .i64 k) :: J32 (J32 (J32 (J32 (J16 (J8 (.junk :: []))))))))) [.cells 86 (Ty.enc tChk c), .cells 88 (Ty.enc tForm f), .cells 46 (Ty.enc tIns x), .vec 93 tI ([x.2.1, x.2.2.1, x.2.2.2.1])] :=
  Run.roundA oc7 formed_lv 3000 Tryd.func44 mixed (formed_l0_R c f x at_ k) (formed_l0_R_ok c f x at_ k) (by
    unfold formed_l0_R
    refine g_iteD (fun h0 => ?_) (fun h0 => ?_)
    · refine g_iteD (fun h1 => ?_) (fun h1 => ?_)
      · refine g_iteD (fun h2 => ?_) (fun h2 => ?_)
        · refine g_stop (RunN.keepU [0, 1, 2, 3] (F2 (false :: true :: true :: true :: true :: F2 (true :: true :: true :: F32 (F32 (F32 (F32 (F16 (F8 ([]))))))))) (F8 (F2 (false :: true :: []))) ([]) n0 (by decide) rfl rfl ?_)
          have ht := formed_r8 c f x at_ k true (by omega) (formed_l0 c f x at_ (k + 1) (by omega)); have e : shF x k = true := (by simp only [shF, h0, h1, h2, if_true, if_false, reduceCtorEq, Int.reduceEq]); rw [restF_step (by omega) (by omega), e, Bool.and_assoc]; exact ht
        · refine g_iteD (fun h3 => ?_) (fun h3 => ?_)
          · refine g_stop (RunN.keepU [0, 1, 2, 3] (F2 (false :: true :: true :: true :: true :: F2 (true :: true :: true :: F32 (F32 (F32 (F32 (F16 (F8 ([]))))))))) (F8 (F2 (false :: true :: []))) ([]) n0 (by decide) rfl rfl ?_)
            have ht := formed_r8 c f x at_ k (decide (x.2.2.2.2.1 = 1)) (by omega) (formed_l0 c f x at_ (k + 1) (by omega)); have e : shF x k = (decide (x.2.2.2.2.1 = 1)) := (by simp only [shF, h0, h1, h2, h3, if_true, if_false, reduceCtorEq, Int.reduceEq]); rw [restF_step (by omega) (by omega), e, Bool.and_assoc]; exact ht
          · refine g_stop (RunN.keepU [0, 1, 2, 3] (F2 (false :: true :: true :: true :: true :: F2 (true :: true :: true :: F32 (F32 (F32 (F32 (F16 (F8 ([]))))))))) (F8 (F2 (false :: true :: []))) ([]) n0 (by decide) rfl rfl ?_)
            have ht := formed_r8 c f x at_ k false (by omega) (formed_l0 c f x at_ (k + 1) (by omega)); have e : shF x k = false := (by simp only [shF, h0, h1, h2, h3, if_true, if_false, reduceCtorEq, Int.reduceEq]); rw [restF_step (by omega) (by omega), e, Bool.and_assoc]; exact ht
      · refine g_stop (RunN.keepU [0, 1, 2, 3] (F2 (false :: true :: true :: true :: true :: F2 (true :: true :: true :: F32 (F32 (F32 (F32 (F16 (F8 ([]))))))))) (F8 (F2 (false :: true :: []))) ([]) n0 (by decide) rfl rfl ?_)
        have ht := formed_r8 c f x at_ k false (by omega) (formed_l0 c f x at_ (k + 1) (by omega)); have e : shF x k = false := (by simp only [shF, h0, h1, if_true, if_false, reduceCtorEq, Int.reduceEq]); rw [restF_step (by omega) (by omega), e, Bool.and_assoc]; exact ht
    · refine g_stop (RunN.keep [0, 1, 2] (F2 (false :: true :: true :: true :: true :: F32 (F32 (F32 (F32 (F16 (F8 (F4 (false :: []))))))))) n0 (by decide) rfl rfl ?_)
      have ht := formed_r10 c f x at_; rw [restF_ge (by omega), Bool.true_and]; exact ht
    )
  termination_by (3 - k).toNat
  decreasing_by all_goals omega
theorem formed_fun (c : EChk) (f : EForm) (x : EIns) (at_ : Int) (hf : 0 ≤ f.1 ∧ f.1 ≤ 3) : AFun Tryd.prog 44 [.agg (tChk.enc c), .agg (tForm.enc f), .agg (tIns.enc x), .c (.int .i64 at_)] (.c (.bool (formedF c f x at_))) :=
  AFun.of oc7 formed_lv 3000 Tryd.func44 mixed rfl (by decide) (Nat.le_of_ble_eq_true rfl) _ (formed_T_ok c f x at_) fun hF => by
    unfold formed_T
    refine g_need (by first | omega | (constructor <;> omega) | (refine ⟨?_, ?_, ?_⟩ <;> simp <;> omega) | (rw [i64_iff]; omega) | (simp; omega)) ?_
    refine g_need (by first | omega | (constructor <;> omega) | (refine ⟨?_, ?_, ?_⟩ <;> simp <;> omega) | (rw [i64_iff]; omega) | (simp; omega)) ?_
    refine g_need (by first | omega | (constructor <;> omega) | (refine ⟨?_, ?_, ?_⟩ <;> simp <;> omega) | (rw [i64_iff]; omega) | (simp; omega)) ?_
    refine g_call (values_fun c (([x.2.1, x.2.2.1, x.2.2.2.1]).take (Int.toNat f.1)) at_) (fun _ => rfl) ?_
    refine g_iteN (fun h0 => ?_) (fun h0 => ?_)
    · exact g_retl (by simp only [formedF, h0, Bool.false_and])
    · refine g_stop (RunN.keep [0, 1, 2, 3] (F2 (false :: true :: true :: true :: true :: F2 (true :: true :: F32 (F32 (F32 (F32 (F16 (F8 (false :: []))))))))) n0 (by decide) rfl rfl ?_)
      have := formed_l0 c f x at_ f.1 hf.1; simp only [formedF, h0, Bool.true_and]; exact this

end Go.Proofs.YtefkifdhjabdiaaDoor
namespace Go.Proofs.YtefkifdhjabdiaaDoor
set_option linter.unusedVariables false
set_option linter.unusedSimpArgs false
open Go.RowKit

/-- What an order's three places name, by the order: three letters. -/
def formF (op : Int) : Option (UInt8 × UInt8 × UInt8) :=
  if op = 1 then some (114, 107, 45) else
  if op = 2 then some (114, 114, 45) else
  if op = 3 then some (114, 114, 114) else
  if op = 4 then some (114, 114, 114) else
  if op = 5 then some (114, 114, 114) else
  if op = 6 then some (114, 114, 114) else
  if op = 7 then some (114, 114, 114) else
  if op = 8 then some (114, 114, 114) else
  if op = 9 then some (114, 114, 114) else
  if op = 10 then some (114, 114, 114) else
  if op = 11 then some (114, 114, 45) else
  if op = 12 then some (114, 114, 45) else
  if op = 13 then some (97, 45, 45) else
  if op = 14 then some (97, 45, 45) else
  if op = 15 then some (114, 97, 45) else
  if op = 16 then some (114, 45, 45) else
  if op = 17 then some (114, 114, 116) else
  if op = 18 then some (114, 116, 114) else
  if op = 19 then some (114, 108, 110) else
  if op = 20 then some (114, 114, 114) else
  if op = 21 then some (114, 114, 114) else
  if op = 22 then some (114, 45, 45) else
  if op = 23 then some (114, 114, 45) else
  if op = 24 then some (114, 114, 45) else
  if op = 25 then some (114, 117, 45) else
  if op = 26 then some (114, 102, 45) else
  if op = 27 then some (114, 99, 110) else
  if op = 28 then some (114, 45, 45) else
  if op = 29 then some (114, 45, 45) else
  if op = 30 then some (114, 97, 45) else
  if op = 31 then some (45, 45, 45) else
  if op = 32 then some (114, 114, 45) else
  if op = 33 then some (114, 45, 45) else
  if op = 34 then some (114, 45, 45) else
  if op = 35 then some (114, 114, 45) else
  if op = 36 then some (114, 114, 45) else
  if op = 37 then some (114, 45, 45) else
  if op = 38 then some (114, 45, 45) else
  none
def formS (op : Int) : ByteArray := match formF op with | some (a, b, c) => ⟨#[a, b, c]⟩ | none => ⟨#[]⟩
theorem form_none {op : Int} (h : op < 1 ∨ 39 ≤ op) : formF op = none := by
  unfold formF
  rw [if_neg (by omega)]
  rw [if_neg (by omega)]
  rw [if_neg (by omega)]
  rw [if_neg (by omega)]
  rw [if_neg (by omega)]
  rw [if_neg (by omega)]
  rw [if_neg (by omega)]
  rw [if_neg (by omega)]
  rw [if_neg (by omega)]
  rw [if_neg (by omega)]
  rw [if_neg (by omega)]
  rw [if_neg (by omega)]
  rw [if_neg (by omega)]
  rw [if_neg (by omega)]
  rw [if_neg (by omega)]
  rw [if_neg (by omega)]
  rw [if_neg (by omega)]
  rw [if_neg (by omega)]
  rw [if_neg (by omega)]
  rw [if_neg (by omega)]
  rw [if_neg (by omega)]
  rw [if_neg (by omega)]
  rw [if_neg (by omega)]
  rw [if_neg (by omega)]
  rw [if_neg (by omega)]
  rw [if_neg (by omega)]
  rw [if_neg (by omega)]
  rw [if_neg (by omega)]
  rw [if_neg (by omega)]
  rw [if_neg (by omega)]
  rw [if_neg (by omega)]
  rw [if_neg (by omega)]
  rw [if_neg (by omega)]
  rw [if_neg (by omega)]
  rw [if_neg (by omega)]
  rw [if_neg (by omega)]
  rw [if_neg (by omega)]
  rw [if_neg (by omega)]
theorem form_cases {op : Int} (h1 : 1 ≤ op) (h2 : op < 39) : op = 1 ∨ op = 2 ∨ op = 3 ∨ op = 4 ∨ op = 5 ∨ op = 6 ∨ op = 7 ∨ op = 8 ∨ op = 9 ∨ op = 10 ∨ op = 11 ∨ op = 12 ∨ op = 13 ∨ op = 14 ∨ op = 15 ∨ op = 16 ∨ op = 17 ∨ op = 18 ∨ op = 19 ∨ op = 20 ∨ op = 21 ∨ op = 22 ∨ op = 23 ∨ op = 24 ∨ op = 25 ∨ op = 26 ∨ op = 27 ∨ op = 28 ∨ op = 29 ∨ op = 30 ∨ op = 31 ∨ op = 32 ∨ op = 33 ∨ op = 34 ∨ op = 35 ∨ op = 36 ∨ op = 37 ∨ op = 38 := by omega
def formTab : Array Value := #[.string ⟨#[]⟩, .string ⟨#[114, 107, 45]⟩, .string ⟨#[114, 114, 45]⟩, .string ⟨#[114, 114, 114]⟩, .string ⟨#[114, 114, 114]⟩, .string ⟨#[114, 114, 114]⟩, .string ⟨#[114, 114, 114]⟩, .string ⟨#[114, 114, 114]⟩, .string ⟨#[114, 114, 114]⟩, .string ⟨#[114, 114, 114]⟩, .string ⟨#[114, 114, 114]⟩, .string ⟨#[114, 114, 45]⟩, .string ⟨#[114, 114, 45]⟩, .string ⟨#[97, 45, 45]⟩, .string ⟨#[97, 45, 45]⟩, .string ⟨#[114, 97, 45]⟩, .string ⟨#[114, 45, 45]⟩, .string ⟨#[114, 114, 116]⟩, .string ⟨#[114, 116, 114]⟩, .string ⟨#[114, 108, 110]⟩, .string ⟨#[114, 114, 114]⟩, .string ⟨#[114, 114, 114]⟩, .string ⟨#[114, 45, 45]⟩, .string ⟨#[114, 114, 45]⟩, .string ⟨#[114, 114, 45]⟩, .string ⟨#[114, 117, 45]⟩, .string ⟨#[114, 102, 45]⟩, .string ⟨#[114, 99, 110]⟩, .string ⟨#[114, 45, 45]⟩, .string ⟨#[114, 45, 45]⟩, .string ⟨#[114, 97, 45]⟩, .string ⟨#[45, 45, 45]⟩, .string ⟨#[114, 114, 45]⟩, .string ⟨#[114, 45, 45]⟩, .string ⟨#[114, 45, 45]⟩, .string ⟨#[114, 114, 45]⟩, .string ⟨#[114, 114, 45]⟩, .string ⟨#[114, 45, 45]⟩, .string ⟨#[114, 45, 45]⟩]
theorem formTab_at : ∀ i : Nat, i < 39 → formTab[i]? = some (.string (formS i)) := by
  intro i hi
  rcases Nat.lt_or_ge i 1 with h | h
  · obtain rfl : i = 0 := by omega
    rfl
  · rcases form_cases (op := i) (by omega) (by omega) with h | h | h | h | h | h | h | h | h | h | h | h | h | h | h | h | h | h | h | h | h | h | h | h | h | h | h | h | h | h | h | h | h | h | h | h | h | h
    all_goals
      obtain rfl := Int.ofNat.inj h
      rfl
theorem wpList_build_eq {P : Program} {ops : Array Oper} {rest : List Oper} {o : Oper} {a : Act} {w : World} {Q : Exit → Act → World → Prop} (hg : o.guard = none) (t : TypeId) (parts : Array (Nat × Operand)) (ho : o.op = .build t parts) (cells : Array Value)
    (hf : P.built t (parts.map fun (i, x) => (i, a.eval x)).toList = some cells)
    (h : wpList P ops Q rest (a.put o.dst (.agg cells)) w) : wpList P ops Q (o :: rest) a w := by
  refine wpList_build hg t parts ho (by rw [hf]; rfl) ?_
  rw [hf]
  exact h
theorem wpList_store_tab {P : Program} {ops : Array Oper} {rest : List Oper} {o : Oper} {a : Act} {w : World} {Q : Exit → Act → World → Prop} (hgd : o.guard = none) (ty : TypeId) (x y : Operand) (ho : o.op = .store ty x y)
    (g : Nat) (cells : Array Value) (hx : a.eval x = .pointer (some ⟨g, 0, none⟩)) (hy : a.eval y = .agg cells)
    (t : TypeId) (old : Array Value) (hg : w.heap[g]? = some (.cells old t (0, 0))) (hi : (P.info? ty).map (·.size) = some cells.size)
    (hold : old.size = cells.size) (h1 : cells.all (·.oneCell') = true)
    (R : World → Prop) (hR : R (w.setRow g cells)) (h : ∀ w1, R w1 → wpList P ops Q rest (a.put o.dst undef) w1) : wpList P ops Q (o :: rest) a w :=
  wpList_store_row hgd ty x y ho g cells hx hy t old hg hi hold h1 (h _ hR)
theorem below_setRow_new (w : World) (o : Obj) (cells : Array Value) : Below w.heap.size w ((w.alloc o).setRow w.heap.size cells) := by
  have h := (Below.refl w.heap.size w).alloc (Nat.le_refl _) o
  exact ⟨h.os, h.tape, h.output, by simp, fun k hk => by rw [setRow_other _ _ _ _ (by omega)]; exact h.block k hk⟩
theorem tab_cell (w : World) (old : Array Value) (t : TypeId) (i : Nat) (hi : i < 39) : ((w.alloc (.cells old t)).setRow w.heap.size formTab).cell? ⟨w.heap.size, i, none⟩ = some (.string (formS i)) := by
  rw [cell_setRow_same _ _ _ _ _ _ _ (heap_alloc_new _ _)]
  exact formTab_at i hi
set_option maxRecDepth 100000 in
set_option maxHeartbeats 8000000 in
theorem form_any (op : Int) (w : World) : Calls Tryd.prog 144 #[.int .i64 op] w fun e w' => e = .returned (.string (formS op)) ∧ Below w.heap.size w w' := by
  by_cases h1 : op < 1
  · rw [show formS op = ⟨#[]⟩ by simp only [formS, form_none (.inl h1)]]
    go_enter Tryd.func144, Tryd.ntmps144
    go_wp2_with (first | (with_reducible refine wpList_build_eq rfl _ _ rfl formTab (by as_aux_lemma => kernel_rfl) ?_) | (with_reducible refine wpList_store_tab rfl _ _ _ rfl _ formTab rfl rfl _ _ (heap_alloc_new _ _) (by as_aux_lemma => kernel_rfl) rfl (by as_aux_lemma => kernel_rfl) (fun w1 => Hid (Below w.heap.size w w1)) (Lib.hid (below_setRow_new _ _ _)) ?_; intro w1 hb))
    go_ret
    exact ⟨rfl, hb.out⟩
  by_cases h2 : 39 ≤ op
  · rw [show formS op = ⟨#[]⟩ by simp only [formS, form_none (.inr h2)]]
    go_enter Tryd.func144, Tryd.ntmps144
    go_wp2_with (first | (with_reducible refine wpList_build_eq rfl _ _ rfl formTab (by as_aux_lemma => kernel_rfl) ?_) | (with_reducible refine wpList_store_tab rfl _ _ _ rfl _ formTab rfl rfl _ _ (heap_alloc_new _ _) (by as_aux_lemma => kernel_rfl) rfl (by as_aux_lemma => kernel_rfl) (fun w1 => Hid (Below w.heap.size w w1)) (Lib.hid (below_setRow_new _ _ _)) ?_; intro w1 hb))
    go_ret
    exact ⟨rfl, hb.out⟩
  obtain ⟨i, rfl⟩ := Int.eq_ofNat_of_zero_le (show 0 ≤ op by omega)
  have hi : i < 39 := by omega
  go_enter Tryd.func144, Tryd.ntmps144
  go_wp2_with (first | (with_reducible refine wpList_build_eq rfl _ _ rfl formTab (by as_aux_lemma => kernel_rfl) ?_) | (with_reducible refine wpList_store_tab rfl _ _ _ rfl _ formTab rfl rfl _ _ (heap_alloc_new _ _) (by as_aux_lemma => kernel_rfl) rfl (by as_aux_lemma => kernel_rfl) (fun w1 => w1.cell? ⟨w.heap.size, i, none⟩ = some (.string (formS i)) ∧ Hid (Below w.heap.size w w1)) ⟨tab_cell _ _ _ _ hi, Lib.hid (below_setRow_new _ _ _)⟩ ?_; rintro w1 ⟨e0, hb⟩))
  go_ret
  exact ⟨rfl, hb.out⟩
end Go.Proofs.YtefkifdhjabdiaaDoor
namespace Go.Proofs.YtefkifdhjabdiaaDoor
set_option linter.unusedVariables false
set_option linter.unusedSimpArgs false
open Go.RowKit

/-- What a look knows: how many functions, constants, texts, registers, caught ones, orders. -/
structure Lk where
  nf : Nat
  nc : Nat
  nt : Nat
  regs : Int
  ng : Nat
  no : Nat
def namesF (l : Lk) (c : UInt8) (n : Int) : Bool :=
  if c = 114 then withinF n 0 (l.regs - 1)
  else if c = 107 then withinF n 0 ((l.nc : Int) - 1)
  else if c = 116 then withinF n 0 ((l.nt : Int) - 1)
  else if c = 97 then withinF n 0 ((l.no : Int) - 1)
  else if c = 117 then withinF n 0 ((l.ng : Int) - 1)
  else if c = 102 then withinF n 1 ((l.nf : Int) - 1)
  else if c = 108 ∨ c = 99 ∨ c = 110 then withinF n 0 l.regs
  else decide (n = 0)
/-- The letters that occur. -/
theorem form_letters {op : Int} {a b c : UInt8} (h : formF op = some (a, b, c)) : (a = 114 ∨ a = 97 ∨ a = 45) ∧ (b = 114 ∨ b = 107 ∨ b = 97 ∨ b = 116 ∨ b = 108 ∨ b = 117 ∨ b = 102 ∨ b = 99 ∨ b = 45) ∧ (c = 114 ∨ c = 116 ∨ c = 110 ∨ c = 45) := by
  rcases Int.lt_or_le op 1 with h1 | h1
  · rw [form_none (.inl h1)] at h; cases h
  rcases Int.lt_or_le op 39 with h2 | h2
  · rcases form_cases h1 h2 with rfl | rfl | rfl | rfl | rfl | rfl | rfl | rfl | rfl | rfl | rfl | rfl | rfl | rfl | rfl | rfl | rfl | rfl | rfl | rfl | rfl | rfl | rfl | rfl | rfl | rfl | rfl | rfl | rfl | rfl | rfl | rfl | rfl | rfl | rfl | rfl | rfl | rfl
    all_goals
      have h : some _ = some (a, b, c) := h
      injection h with h
      injection h with ha h
      injection h with hb hc
      subst ha hb hc
      decide
  · rw [form_none (.inr h2)] at h; cases h
/-- One that may be a letter. -/
def Letter (c : UInt8) : Prop := c = 114 ∨ c = 107 ∨ c = 116 ∨ c = 97 ∨ c = 117 ∨ c = 102 ∨ c = 108 ∨ c = 99 ∨ c = 110 ∨ c = 45
structure Lk.Ok (l : Lk) : Prop where
  nf : l.nf ≤ 9223372036854775807
  nc : l.nc ≤ 9223372036854775807
  nt : l.nt ≤ 9223372036854775807
  ng : l.ng ≤ 9223372036854775807
  no : l.no ≤ 9223372036854775807
  r0 : 0 ≤ l.regs
  r1 : l.regs ≤ 9223372036854775807

set_option maxRecDepth 100000 in
set_option maxHeartbeats 4000000 in
theorem names_any (l : Lk) (hl : l.Ok) (A1 A2 A3 A4 A5 : Option Addr) (c1 c2 c3 c4 c5 : Nat) (params : Int) (gen : Bool) (c : UInt8) (hc : Letter c) (n : Int) (w : World) :
    Calls Tryd.prog 146 #[.agg (lookCells (.slice A1 l.nf c1) (.slice A2 l.nc c2) (.slice A3 l.nt c3) params l.regs gen (.slice A4 l.ng c4) (.slice A5 l.no c5)), .int .u8 c.toNat, .int .i64 n] w fun e w' => e = .returned (.bool (namesF l c n)) ∧ Below w.heap.size w w' := by
  obtain ⟨nf, nc, nt, regs, ng, no⟩ := l
  obtain ⟨k1, k2, k3, k4, k5, k6, k7⟩ := hl
  simp only at k1 k2 k3 k4 k5 k6 k7 ⊢
  have HB := Lib.hid (show ∀ o, Below w.heap.size w (w.alloc o) from fun o => (Below.refl _ _).alloc (Nat.le_refl _) _)
  have hR := Lib.hid (fun w' => reg_any (.slice A1 nf c1) (.slice A2 nc c2) (.slice A3 nt c3) params regs gen (.slice A4 ng c4) (.slice A5 no c5) n w' ⟨by omega, k7⟩ k6)
  have hT := Lib.hid (fun w' => text_any (.slice A1 nf c1) (.slice A2 nc c2) params regs gen (.slice A4 ng c4) (.slice A5 no c5) A3 nt c3 n w' k3)
  have hA := Lib.hid (fun w' => at_any (.slice A1 nf c1) (.slice A2 nc c2) (.slice A3 nt c3) params regs gen (.slice A4 ng c4) A5 no c5 n w' k5)
  rcases hc with rfl | rfl | rfl | rfl | rfl | rfl | rfl | rfl | rfl | rfl
  · unfold namesF
    simp only [if_true]
    go_enter Tryd.func146, Tryd.ntmps146
    go_wp2_with fail
    refine (hR.out _).mono ?_
    rintro e w1 ⟨rfl, hb⟩
    have H1 := Lib.hid ((HB.out _).trans (hb.mono (HB.out _).size))
    clear hb
    go_wp2_with fail
    go_ret
    exact ⟨rfl, H1.out⟩
  · unfold namesF
    rw [if_neg (by decide), if_pos rfl]
    go_enter Tryd.func146, Tryd.ntmps146
    go_wp2_with fail
    refine (within_any _ _ _ _).mono ?_
    rintro e w1 ⟨rfl, rfl⟩
    go_wp2_with fail
    go_ret
    exact ⟨rfl, HB.out _⟩
  · unfold namesF
    rw [if_neg (by decide), if_neg (by decide), if_pos rfl]
    go_enter Tryd.func146, Tryd.ntmps146
    go_wp2_with fail
    refine (hT.out _).mono ?_
    rintro e w1 ⟨rfl, hb⟩
    have H1 := Lib.hid ((HB.out _).trans (hb.mono (HB.out _).size))
    clear hb
    go_wp2_with fail
    go_ret
    exact ⟨rfl, H1.out⟩
  · unfold namesF
    rw [if_neg (by decide), if_neg (by decide), if_neg (by decide), if_pos rfl]
    go_enter Tryd.func146, Tryd.ntmps146
    go_wp2_with fail
    refine (hA.out _).mono ?_
    rintro e w1 ⟨rfl, hb⟩
    have H1 := Lib.hid ((HB.out _).trans (hb.mono (HB.out _).size))
    clear hb
    go_wp2_with fail
    go_ret
    exact ⟨rfl, H1.out⟩
  · unfold namesF
    rw [if_neg (by decide), if_neg (by decide), if_neg (by decide), if_neg (by decide), if_pos rfl]
    go_enter Tryd.func146, Tryd.ntmps146
    go_wp2_with fail
    refine (within_any _ _ _ _).mono ?_
    rintro e w1 ⟨rfl, rfl⟩
    go_wp2_with fail
    go_ret
    exact ⟨rfl, HB.out _⟩
  · unfold namesF
    rw [if_neg (by decide), if_neg (by decide), if_neg (by decide), if_neg (by decide), if_neg (by decide), if_pos rfl]
    go_enter Tryd.func146, Tryd.ntmps146
    go_wp2_with fail
    refine (within_any _ _ _ _).mono ?_
    rintro e w1 ⟨rfl, rfl⟩
    go_wp2_with fail
    go_ret
    exact ⟨rfl, HB.out _⟩
  all_goals
    unfold namesF
    rw [if_neg (by decide), if_neg (by decide), if_neg (by decide), if_neg (by decide), if_neg (by decide), if_neg (by decide)]
  · rw [if_pos (by decide)]
    go_enter Tryd.func146, Tryd.ntmps146
    go_wp2_with fail
    refine (within_any _ _ _ _).mono ?_
    rintro e w1 ⟨rfl, rfl⟩
    go_wp2_with fail
    go_ret
    exact ⟨rfl, HB.out _⟩
  · rw [if_pos (by decide)]
    go_enter Tryd.func146, Tryd.ntmps146
    go_wp2_with fail
    refine (within_any _ _ _ _).mono ?_
    rintro e w1 ⟨rfl, rfl⟩
    go_wp2_with fail
    go_ret
    exact ⟨rfl, HB.out _⟩
  · rw [if_pos (by decide)]
    go_enter Tryd.func146, Tryd.ntmps146
    go_wp2_with fail
    refine (within_any _ _ _ _).mono ?_
    rintro e w1 ⟨rfl, rfl⟩
    go_wp2_with fail
    go_ret
    exact ⟨rfl, HB.out _⟩
  · rw [if_neg (by decide)]
    by_cases h0 : n = 0
    · subst h0
      go_enter Tryd.func146, Tryd.ntmps146
      go_wp2_with fail
      go_ret
      exact ⟨rfl, HB.out _⟩
    · have h0' : (n == 0) = false := by simpa using h0
      rw [show decide (n = 0) = false by simpa using h0]
      go_enter Tryd.func146, Tryd.ntmps146
      go_wp2_with fail
      go_ret
      exact ⟨rfl, HB.out _⟩

/-! ### caught -/
theorem caught1_any (regs : Int) (ng : Nat) (b : Nat) (n : Int) (hn : Rd.IsInt n) (w : World) (vf vc vt : Value) (params : Int) (gen : Bool) (A : Option Addr) (cp : Nat) (vco : Value) (hr0 : 0 ≤ regs) (hr1 : regs ≤ 9223372036854775807) (hng : ng ≤ 9223372036854775807)
    (e0 : ∀ i v, (lookCells vf vc vt params regs gen (.slice A ng cp) vco)[i]? = some v → w.cell? ⟨b, i, none⟩ = some v) (hb : b < w.heap.size) :
    Calls Tryd.prog 163 #[.int .i64 n, .pointer (some ⟨b, 0, none⟩)] w fun e w' => e = .returned (.bool (!withinF n 0 (regs - 1) && !withinF n (-(ng : Int)) (-1))) ∧ Below w.heap.size w w' := by
  have k0 := e0 0 _ rfl
  have k1 := e0 1 _ rfl
  have k2 := e0 2 _ rfl
  have k3 := e0 3 _ rfl
  have k4 := e0 4 _ rfl
  have k5 := e0 5 _ rfl
  have k6 := e0 6 _ rfl
  have k7 := e0 7 _ rfl
  have hR := Lib.hid (fun w' => reg_any vf vc vt params regs gen (.slice A ng cp) vco n w' ⟨by omega, hr1⟩ hr0)
  clear e0
  cases h : withinF n 0 (regs - 1) with
  | true =>
    go_enter Tryd.func163, Tryd.ntmps163
    go_wp2_with fail
    refine (hR.out _).mono ?_
    rintro e w1 ⟨rfl, h1⟩
    rw [h]
    have H1 := Lib.hid h1
    clear h1
    go_wp2_with fail
    go_ret
    exact ⟨rfl, H1.out⟩
  | false =>
    go_enter Tryd.func163, Tryd.ntmps163
    go_wp2_with fail
    refine (hR.out _).mono ?_
    rintro e w1 ⟨rfl, h1⟩
    rw [h]
    have j6 : w1.cell? ⟨b, 6, none⟩ = some (.slice A ng cp) := by rw [h1.cell (p := ⟨b, 6, none⟩) hb]; exact k6
    have H1 := Lib.hid h1
    clear h1
    go_wp2_with fail
    refine (within_any _ _ _ _).mono ?_
    rintro e w1 ⟨rfl, rfl⟩
    go_wp2_with fail
    go_ret
    exact ⟨rfl, H1.out⟩
end Go.Proofs.YtefkifdhjabdiaaDoor
namespace Go.Proofs.YtefkifdhjabdiaaDoor
set_option linter.unusedVariables false
set_option linter.unusedSimpArgs false
open Go.RowKit

def caughtF (regs : Int) (ng : Nat) (cs : List Int) : Bool := !(cs.any fun c => !withinF c 0 (regs - 1) && !withinF c (-(ng : Int)) (-1))
theorem ent_caught1 : ∀ args w, (callFunc 163 args).run Tryd.prog w = .ok (.enter 163 args) w := enters_of Tryd.func163 (by kernel_rfl) rfl
/-- A block just laid reads as laid. -/
theorem laid_cells {w : World} (cs : Array Value) (t : TypeId) (i : Nat) (v : Value) (h : cs[i]? = some v) : (w.alloc (.cells cs t)).cell? ⟨w.heap.size, i, none⟩ = some v := by
  rw [World.cell?, heap_alloc_new]; exact h

set_option maxRecDepth 100000 in
theorem caught_any (ok : Nat → Prop) (w : World) (f : Fn) (v1 v2 : Value) (hv : SlK Rd.int ok w f.caught v1) (vf vc vt : Value) (params regs : Int) (gen : Bool) (A : Option Addr) (ng cp : Nat) (vco : Value) (hr0 : 0 ≤ regs) (hr1 : regs ≤ 9223372036854775807) (hng : ng ≤ 9223372036854775807) :
    Calls Tryd.prog 148 #[.agg (lookCells vf vc vt params regs gen (.slice A ng cp) vco), .agg #[.int .i64 f.params, .int .i64 f.regs, .bool f.gen, v1, v2]] w fun e w' => e = .returned (.bool (caughtF regs ng f.caught)) ∧ Below w.heap.size w w' := by
  obtain ⟨A', c', hv1, _, _, _, hC⟩ := hv
  injection hv1 with hv1
  subst hv1
  obtain ⟨o, ho⟩ : ∃ o, o = (.cells (lookCells vf vc vt params regs gen (.slice A ng cp) vco) 187 : Obj) := ⟨_, rfl⟩
  have HB : ∀ o', Below w.heap.size w ((w.alloc o).alloc o') := fun o' => ((Below.refl _ _).alloc (Nat.le_refl _) _).alloc (by simp) _
  have K : ∀ o', Calls Tryd.prog 56 #[.slice A' f.caught.length c', .func (.func 163) #[] #[.pointer (some ⟨w.heap.size, 0, none⟩)]] ((w.alloc o).alloc o') fun e w'' => e = .returned (.bool (f.caught.any fun c => !withinF c 0 (regs - 1) && !withinF c (-(ng : Int)) (-1))) ∧ Below ((w.alloc o).alloc o').heap.size ((w.alloc o).alloc o') w'' := fun o' =>
    containsInt ok _ _ (fun c => !withinF c 0 (regs - 1) && !withinF c (-(ng : Int)) (-1)) _ A' _ c' f.caught (hC.move (fun k _ hk => (HB o').block k hk)) ent_caught1 (fun x hx w2 h2 hi =>
      caught1_any regs ng w.heap.size x hi w2 vf vc vt params gen A cp vco hr0 hr1 hng (fun i v hv => by
        rw [h2.cell (p := ⟨w.heap.size, i, none⟩) (by simp; omega), World.cell?_alloc_lt _ _ _ (by simp), ho]
        exact laid_cells _ _ _ _ hv) (by have := h2.size; simp at this; omega))
  have HK := Lib.hid K
  have HB' := Lib.hid HB
  clear K HB
  unfold caughtF
  generalize (f.caught.any fun c => !withinF c 0 (regs - 1) && !withinF c (-(ng : Int)) (-1)) = r at HK ⊢
  generalize f.caught.length = m at HK ⊢
  subst ho
  go_enter Tryd.func148, Tryd.ntmps148
  go_wp2_with fail
  refine (HK.out _).mono ?_
  rintro e w1 ⟨rfl, hb⟩
  have H1 := Lib.hid ((HB'.out _).trans (hb.mono (HB'.out _).size))
  clear hb
  go_wp2_with fail
  go_ret
  exact ⟨rfl, H1.out⟩

def orderF (fns : List Fn) (l : Lk) (gen : Bool) (at_ : Int) (i : Ord) : Bool :=
  match formF i.op with
  | none => false
  | some (a, b, c) =>
    withinF i.line 0 2000 && namesF l a i.a && namesF l b i.b && namesF l c i.c &&
      (if i.op = 14 then decide (i.a ≤ at_)
       else if i.op = 19 then decide (i.b + i.c ≤ l.regs)
       else if i.op = 27 then withinF (i.b + i.c) 0 (l.regs - 1)
       else if i.op = 26 then match fns[i.b.toNat]? with | some f => caughtF l.regs l.ng f.caught | none => true
       else if i.op = 32 then gen
       else true)
abbrev lookOf (l : Lk) (A1 A2 A3 A4 A5 : Option Addr) (c1 c2 c3 c4 c5 : Nat) (params : Int) (gen : Bool) : Array Value := lookCells (.slice A1 l.nf c1) (.slice A2 l.nc c2) (.slice A3 l.nt c3) params l.regs gen (.slice A4 l.ng c4) (.slice A5 l.no c5)

set_option maxRecDepth 100000 in
set_option maxHeartbeats 4000000 in
theorem order_none (l : Lk) (hl : l.Ok) (A1 A2 A3 A4 A5 : Option Addr) (c1 c2 c3 c4 c5 : Nat) (params : Int) (gen : Bool) (at_ : Int) (i : Ord) (hf : formF i.op = none) (w : World) :
    Calls Tryd.prog 121 #[.agg (lookOf l A1 A2 A3 A4 A5 c1 c2 c3 c4 c5 params gen), .int .i64 at_, .agg i.cells] w fun e w' => e = .returned (.bool false) ∧ Below w.heap.size w w' := by
  have hs : formS i.op = ⟨#[]⟩ := by simp [formS, hf]
  have HF := Lib.hid (fun w => form_any i.op w)
  rw [hs] at HF
  clear hf hs
  obtain ⟨op, a, b, c, line⟩ := i
  unfold Ord.cells
  simp only at HF ⊢
  go_enter Tryd.func121, Tryd.ntmps121
  go_wp2_with fail
  refine (HF.out _).mono ?_
  rintro e w1 ⟨rfl, hb⟩
  have H1 := Lib.hid ((((Below.refl w.heap.size w).alloc (Nat.le_refl _) _).alloc (by simp) _).trans (hb.mono (by simp; omega)))
  clear hb
  go_wp2_with fail
  go_quiet (fail)
  go_wp2_with fail
  go_ret
  exact ⟨rfl, ⟨H1.out.os, H1.out.tape, H1.out.output, H1.out.size, H1.out.block⟩⟩

theorem within_below (n lo hi : Int) (r : Bool) (hr : withinF n lo hi = r) (w : World) : Calls Tryd.prog 145 #[.int .i64 n, .int .i64 lo, .int .i64 hi] w fun e w' => e = .returned (.bool r) ∧ Below w.heap.size w w' :=
  (within_any n lo hi w).mono (by rintro e w' ⟨rfl, rfl⟩; exact ⟨by rw [hr], Below.refl _ _⟩)


set_option maxRecDepth 100000 in
set_option maxHeartbeats 8000000 in
theorem order_line (l : Lk) (hl : l.Ok) (A1 A2 A3 A4 A5 : Option Addr) (c1 c2 c3 c4 c5 : Nat) (params : Int) (gen : Bool) (at_ : Int) (i : Ord) (fa fb fc : UInt8) (hf : formF i.op = some (fa, fb, fc)) (hline : withinF i.line 0 2000 = false) (w : World) :
    Calls Tryd.prog 121 #[.agg (lookOf l A1 A2 A3 A4 A5 c1 c2 c3 c4 c5 params gen), .int .i64 at_, .agg i.cells] w fun e w' => e = .returned (.bool false) ∧ Below w.heap.size w w' := by
  obtain ⟨op, a, b, c, line⟩ := i
  obtain ⟨nf, nc, nt, regs, ng, no⟩ := l
  have hl' := hl
  obtain ⟨k1, k2, k3, k4, k5, k6, k7⟩ := hl'
  unfold Ord.cells
  unfold lookOf
  simp only at hf hl hline k1 k2 k3 k4 k5 k6 k7 ⊢
  have hs : formS op = ⟨#[fa, fb, fc]⟩ := by simp [formS, hf]
  have HF := Lib.hid (fun w => form_any op w)
  rw [hs] at HF
  obtain ⟨la, lb, lc⟩ := form_letters hf
  have HN1 := Lib.hid (fun w' => names_any ⟨nf, nc, nt, regs, ng, no⟩ hl A1 A2 A3 A4 A5 c1 c2 c3 c4 c5 params gen fa (by rcases la with h | h | h <;> simp [Letter, h]) a w')
  have HN2 := Lib.hid (fun w' => names_any ⟨nf, nc, nt, regs, ng, no⟩ hl A1 A2 A3 A4 A5 c1 c2 c3 c4 c5 params gen fb (by rcases lb with h | h | h | h | h | h | h | h | h <;> simp [Letter, h]) b w')
  have HN3 := Lib.hid (fun w' => names_any ⟨nf, nc, nt, regs, ng, no⟩ hl A1 A2 A3 A4 A5 c1 c2 c3 c4 c5 params gen fc (by rcases lc with h | h | h | h <;> simp [Letter, h]) c w')
  simp only at HN1 HN2 HN3
  have HL := Lib.hid (fun w' => within_below line 0 2000 _ hline w')
  obtain ⟨W0, hW0⟩ : ∃ W0, W0 = (w.alloc (.cells (lookCells (.slice A1 nf c1) (.slice A2 nc c2) (.slice A3 nt c3) params regs gen (.slice A4 ng c4) (.slice A5 no c5)) 187)).alloc (.cells #[.int .i64 op, .int .i64 a, .int .i64 b, .int .i64 c, .int .i64 line] 189) := ⟨_, rfl⟩
  have sz0 : W0.heap.size = w.heap.size + 2 := by rw [hW0]; simp
  have B0 : Below w.heap.size w W0 := by rw [hW0]; exact ((Below.refl _ _).alloc (Nat.le_refl _) _).alloc (by simp) _
  have fa_ : ∀ w', Below (w.heap.size + 2) W0 w' → w'.cell? ⟨w.heap.size, 0, none⟩ = some (.slice A1 nf c1) ∧ w'.cell? ⟨w.heap.size, 1, none⟩ = some (.slice A2 nc c2) ∧ w'.cell? ⟨w.heap.size, 2, none⟩ = some (.slice A3 nt c3) ∧ w'.cell? ⟨w.heap.size, 3, none⟩ = some (.int .i64 params) ∧ w'.cell? ⟨w.heap.size, 4, none⟩ = some (.int .i64 regs) ∧ w'.cell? ⟨w.heap.size, 5, none⟩ = some (.bool gen) ∧ w'.cell? ⟨w.heap.size, 6, none⟩ = some (.slice A4 ng c4) ∧ w'.cell? ⟨w.heap.size, 7, none⟩ = some (.slice A5 no c5) ∧
      w'.cell? ⟨w.heap.size + 1, 0, none⟩ = some (.int .i64 op) ∧ w'.cell? ⟨w.heap.size + 1, 1, none⟩ = some (.int .i64 a) ∧ w'.cell? ⟨w.heap.size + 1, 2, none⟩ = some (.int .i64 b) ∧ w'.cell? ⟨w.heap.size + 1, 3, none⟩ = some (.int .i64 c) ∧ w'.cell? ⟨w.heap.size + 1, 4, none⟩ = some (.int .i64 line) ∧
      w.heap.size + 1 < w'.heap.size ∧ Below (w.heap.size + 2) W0 w' := fun w' h' => by
    have e : ∀ i, w'.cell? ⟨w.heap.size, i, none⟩ = W0.cell? ⟨w.heap.size, i, none⟩ := fun i => h'.cell (p := ⟨w.heap.size, i, none⟩) (by simp)
    have e' : ∀ i, w'.cell? ⟨w.heap.size + 1, i, none⟩ = W0.cell? ⟨w.heap.size + 1, i, none⟩ := fun i => h'.cell (p := ⟨w.heap.size + 1, i, none⟩) (by simp)
    refine ⟨?_, ?_, ?_, ?_, ?_, ?_, ?_, ?_, ?_, ?_, ?_, ?_, ?_, by have := h'.size; omega, h'⟩ <;> (first | rw [e, hW0] | rw [e', hW0]) <;> simp [lookCells]
  have HFA := Lib.hid fa_
  have HB := Lib.hid B0
  have HW := Lib.hid hW0
  have HS := Lib.hid sz0
  clear fa_ B0 hW0 sz0 hf hs la lb lc hl
  go_enter Tryd.func121, Tryd.ntmps121
  go_wp2_with fail
  refine (HF.out _).mono ?_
  rintro e w1 ⟨rfl, hb⟩
  have hb1 : Below (w.heap.size + 2) W0 w1 := by rw [HW.out]; simpa using hb
  obtain ⟨q0, q1, q2, q3, q4, q5, q6, q7, p0, p1, p2, p3, p4, szs, hb2⟩ := HFA.out _ hb1
  clear hb hb1
  go_wp2_with fail
  refine wp_region_held_drew (S := fun w' => w'.cell? ⟨w.heap.size, 0, none⟩ = some (.slice A1 nf c1) ∧ w'.cell? ⟨w.heap.size, 1, none⟩ = some (.slice A2 nc c2) ∧ w'.cell? ⟨w.heap.size, 2, none⟩ = some (.slice A3 nt c3) ∧ w'.cell? ⟨w.heap.size, 3, none⟩ = some (.int .i64 params) ∧ w'.cell? ⟨w.heap.size, 4, none⟩ = some (.int .i64 regs) ∧ w'.cell? ⟨w.heap.size, 5, none⟩ = some (.bool gen) ∧ w'.cell? ⟨w.heap.size, 6, none⟩ = some (.slice A4 ng c4) ∧ w'.cell? ⟨w.heap.size, 7, none⟩ = some (.slice A5 no c5) ∧
      w'.cell? ⟨w.heap.size + 1, 0, none⟩ = some (.int .i64 op) ∧ w'.cell? ⟨w.heap.size + 1, 1, none⟩ = some (.int .i64 a) ∧ w'.cell? ⟨w.heap.size + 1, 2, none⟩ = some (.int .i64 b) ∧ w'.cell? ⟨w.heap.size + 1, 3, none⟩ = some (.int .i64 c) ∧ w'.cell? ⟨w.heap.size + 1, 4, none⟩ = some (.int .i64 line) ∧
      w.heap.size + 1 < w'.heap.size ∧ Below (w.heap.size + 2) W0 w') (by kernel_rfl) (HFA.out _ (Below.drew (by assumption))) (fun hHeld => ?_)
  try dsimp only
  refine wpAnyH_take (i := 0) (oi := ?oi0) (v := ?vv0) ?hi0 (by kernel_rfl) (by kernel_rfl) (by kernel_rfl) ?hQ0 (Or.inl ⟨?hw0, ?hy0⟩) (by assumption) ?hh0
  case hi0 => simp only [List.getElem?_toArray, List.getElem?_cons_succ, List.getElem?_cons_zero]; rfl
  case hw0 => rfl
  case hy0 => (intro w hSw; (try dsimp only at hSw); go_simp; (try with_reducible rfl))
  case hQ0 => exact fun _ _ _ h => h
  try simp only [Act.put, List.setIfInBounds_toArray, List.set_cons_zero, List.set_cons_succ]
  refine wpAnyH_take (i := 1) (oi := ?oi1) (v := ?vv1) ?hi1 (by kernel_rfl) (by kernel_rfl) (by kernel_rfl) ?hQ1 (Or.inl ⟨?hw1, ?hy1⟩) (by assumption) ?hh1
  case hi1 => simp only [List.getElem?_toArray, List.getElem?_cons_succ, List.getElem?_cons_zero]; rfl
  case hw1 => rfl
  case hy1 => (intro w hSw; (try dsimp only at hSw); go_simp; (try with_reducible rfl))
  case hQ1 => exact fun _ _ _ h => h
  try simp only [Act.put, List.setIfInBounds_toArray, List.set_cons_zero, List.set_cons_succ]
  refine wpAnyH_take (i := 2) (oi := ?oi2) (v := ?vv2) ?hi2 (by kernel_rfl) (by kernel_rfl) (by kernel_rfl) ?hQ2 (Or.inl ⟨?hw2, ?hy2⟩) (by assumption) ?hh2
  case hi2 => simp only [List.getElem?_toArray, List.getElem?_cons_succ, List.getElem?_cons_zero]; rfl
  case hw2 => rfl
  case hy2 => (intro w hSw; (try dsimp only at hSw); go_simp; (try with_reducible rfl))
  case hQ2 => exact fun _ _ _ h => h
  try simp only [Act.put, List.setIfInBounds_toArray, List.set_cons_zero, List.set_cons_succ]
  refine wpAnyH_take (i := 3) (oi := ?oi3) (v := ?vv3) ?hi3 (by kernel_rfl) (by kernel_rfl) (by kernel_rfl) ?hQ3 (Or.inl ⟨?hw3, ?hy3⟩) (by assumption) ?hh3
  case hi3 => simp only [List.getElem?_toArray, List.getElem?_cons_succ, List.getElem?_cons_zero]; rfl
  case hw3 => rfl
  case hy3 => (intro w hSw; (try dsimp only at hSw); go_simp; (try with_reducible rfl))
  case hQ3 => exact fun _ _ _ h => h
  try simp only [Act.put, List.setIfInBounds_toArray, List.set_cons_zero, List.set_cons_succ]
  refine wpAnyH_take (i := 4) (oi := ?oi4) (v := ?vv4) ?hi4 (by kernel_rfl) (by kernel_rfl) (by kernel_rfl) ?hQ4 (Or.inl ⟨?hw4, ?hy4⟩) (by assumption) ?hh4
  case hi4 => simp only [List.getElem?_toArray, List.getElem?_cons_succ, List.getElem?_cons_zero]; rfl
  case hw4 => rfl
  case hy4 => (intro w hSw; (try dsimp only at hSw); go_simp; (try with_reducible rfl))
  case hQ4 => exact fun _ _ _ h => h
  try simp only [Act.put, List.setIfInBounds_toArray, List.set_cons_zero, List.set_cons_succ]
  refine wpAnyH_ready (rs := [5]) (by kernel_rfl) (by simp) ?_
  refine AllReadyH.cons (o := ?oi5) ?hi5 (fun K hK => ?hh5) AllReadyH.nil
  case hi5 => simp only [List.getElem?_toArray, List.getElem?_cons_succ, List.getElem?_cons_zero]; rfl
  go_simp
  go_at_call 145
  refine (HL.out _).mono ?_
  rintro e w' ⟨rfl, hbb⟩
  go_wp2_with fail
  refine hK.out _ _ ?_ (fun hHeld2 => ?_)
  · (first | exact HFA.out _ (Below.drew (by assumption)) | (go_split_ands; exact HFA.out _ ((by assumption : Below (w.heap.size + 2) W0 _).trans (hbb.mono (by omega)))))
  clear hK K hHeld
  have hHeld := hHeld2
  clear hHeld2
  try simp only [Act.put, List.setIfInBounds_toArray, List.set_cons_zero, List.set_cons_succ]
  refine wpAnyH_take (i := 6) (oi := ?oi6) (v := ?vv6) ?hi6 (by kernel_rfl) (by kernel_rfl) (by kernel_rfl) ?hQ6 (Or.inl ⟨?hw6, ?hy6⟩) (by assumption) ?hh6
  case hi6 => simp only [List.getElem?_toArray, List.getElem?_cons_succ, List.getElem?_cons_zero]; rfl
  case hw6 => rfl
  case hy6 => (intro w hSw; (try dsimp only at hSw); go_simp; (try with_reducible rfl))
  case hQ6 => exact fun _ _ _ h => h
  try simp only [Act.put, List.setIfInBounds_toArray, List.set_cons_zero, List.set_cons_succ]
  refine wpAnyH_take (i := 7) (oi := ?oi7) (v := ?vv7) ?hi7 (by kernel_rfl) (by kernel_rfl) (by kernel_rfl) ?hQ7 (Or.inl ⟨?hw7, ?hy7⟩) (by assumption) ?hh7
  case hi7 => simp only [List.getElem?_toArray, List.getElem?_cons_succ, List.getElem?_cons_zero]; rfl
  case hw7 => rfl
  case hy7 => (intro w hSw; (try dsimp only at hSw); go_simp; (try with_reducible rfl))
  case hQ7 => exact fun _ _ _ h => h
  try simp only [Act.put, List.setIfInBounds_toArray, List.set_cons_zero, List.set_cons_succ]
  refine wpAnyH_take (i := 8) (oi := ?oi8) (v := ?vv8) ?hi8 (by kernel_rfl) (by kernel_rfl) (by kernel_rfl) ?hQ8 (Or.inl ⟨?hw8, ?hy8⟩) (by assumption) ?hh8
  case hi8 => simp only [List.getElem?_toArray, List.getElem?_cons_succ, List.getElem?_cons_zero]; rfl
  case hw8 => rfl
  case hy8 => (intro w hSw; (try dsimp only at hSw); go_simp; (try with_reducible rfl))
  case hQ8 => exact fun _ _ _ h => h
  try simp only [Act.put, List.setIfInBounds_toArray, List.set_cons_zero, List.set_cons_succ]
  refine wpAnyH_take (i := 9) (oi := ?oi9) (v := undef) ?hi9 (by kernel_rfl) (by kernel_rfl) (by kernel_rfl) ?hQ9 (Or.inr ⟨?hw9, rfl⟩) (by assumption) ?hh9
  case hi9 => simp only [List.getElem?_toArray, List.getElem?_cons_succ, List.getElem?_cons_zero]; rfl
  case hw9 => rfl
  case hQ9 => exact fun _ _ _ h => h
  try simp only [Act.put, List.setIfInBounds_toArray, List.set_cons_zero, List.set_cons_succ]
  refine wpAnyH_take (i := 10) (oi := ?oi10) (v := undef) ?hi10 (by kernel_rfl) (by kernel_rfl) (by kernel_rfl) ?hQ10 (Or.inr ⟨?hw10, rfl⟩) (by assumption) ?hh10
  case hi10 => simp only [List.getElem?_toArray, List.getElem?_cons_succ, List.getElem?_cons_zero]; rfl
  case hw10 => rfl
  case hQ10 => exact fun _ _ _ h => h
  try simp only [Act.put, List.setIfInBounds_toArray, List.set_cons_zero, List.set_cons_succ]
  refine wpAnyH_take (i := 11) (oi := ?oi11) (v := undef) ?hi11 (by kernel_rfl) (by kernel_rfl) (by kernel_rfl) ?hQ11 (Or.inr ⟨?hw11, rfl⟩) (by assumption) ?hh11
  case hi11 => simp only [List.getElem?_toArray, List.getElem?_cons_succ, List.getElem?_cons_zero]; rfl
  case hw11 => rfl
  case hQ11 => exact fun _ _ _ h => h
  try simp only [Act.put, List.setIfInBounds_toArray, List.set_cons_zero, List.set_cons_succ]
  refine wpAnyH_take (i := 12) (oi := ?oi12) (v := undef) ?hi12 (by kernel_rfl) (by kernel_rfl) (by kernel_rfl) ?hQ12 (Or.inr ⟨?hw12, rfl⟩) (by assumption) ?hh12
  case hi12 => simp only [List.getElem?_toArray, List.getElem?_cons_succ, List.getElem?_cons_zero]; rfl
  case hw12 => rfl
  case hQ12 => exact fun _ _ _ h => h
  try simp only [Act.put, List.setIfInBounds_toArray, List.set_cons_zero, List.set_cons_succ]
  refine wpAnyH_take (i := 13) (oi := ?oi13) (v := undef) ?hi13 (by kernel_rfl) (by kernel_rfl) (by kernel_rfl) ?hQ13 (Or.inr ⟨?hw13, rfl⟩) (by assumption) ?hh13
  case hi13 => simp only [List.getElem?_toArray, List.getElem?_cons_succ, List.getElem?_cons_zero]; rfl
  case hw13 => rfl
  case hQ13 => exact fun _ _ _ h => h
  try simp only [Act.put, List.setIfInBounds_toArray, List.set_cons_zero, List.set_cons_succ]
  refine wpAnyH_take (i := 14) (oi := ?oi14) (v := undef) ?hi14 (by kernel_rfl) (by kernel_rfl) (by kernel_rfl) ?hQ14 (Or.inr ⟨?hw14, rfl⟩) (by assumption) ?hh14
  case hi14 => simp only [List.getElem?_toArray, List.getElem?_cons_succ, List.getElem?_cons_zero]; rfl
  case hw14 => rfl
  case hQ14 => exact fun _ _ _ h => h
  try simp only [Act.put, List.setIfInBounds_toArray, List.set_cons_zero, List.set_cons_succ]
  refine wpAnyH_take (i := 15) (oi := ?oi15) (v := undef) ?hi15 (by kernel_rfl) (by kernel_rfl) (by kernel_rfl) ?hQ15 (Or.inr ⟨?hw15, rfl⟩) (by assumption) ?hh15
  case hi15 => simp only [List.getElem?_toArray, List.getElem?_cons_succ, List.getElem?_cons_zero]; rfl
  case hw15 => rfl
  case hQ15 => exact fun _ _ _ h => h
  try simp only [Act.put, List.setIfInBounds_toArray, List.set_cons_zero, List.set_cons_succ]
  refine wpAnyH_take (i := 16) (oi := ?oi16) (v := ?vv16) ?hi16 (by kernel_rfl) (by kernel_rfl) (by kernel_rfl) ?hQ16 (Or.inl ⟨?hw16, ?hy16⟩) (by assumption) ?hh16
  case hi16 => simp only [List.getElem?_toArray, List.getElem?_cons_succ, List.getElem?_cons_zero]; rfl
  case hw16 => rfl
  case hy16 => (intro w hSw; (try dsimp only at hSw); go_simp; (try with_reducible rfl))
  case hQ16 => exact fun _ _ _ h => h
  try simp only [Act.put, List.setIfInBounds_toArray, List.set_cons_zero, List.set_cons_succ]
  refine wpAnyH_take (i := 17) (oi := ?oi17) (v := ?vv17) ?hi17 (by kernel_rfl) (by kernel_rfl) (by kernel_rfl) ?hQ17 (Or.inl ⟨?hw17, ?hy17⟩) (by assumption) ?hh17
  case hi17 => simp only [List.getElem?_toArray, List.getElem?_cons_succ, List.getElem?_cons_zero]; rfl
  case hw17 => rfl
  case hy17 => (intro w hSw; (try dsimp only at hSw); go_simp; (try with_reducible rfl))
  case hQ17 => exact fun _ _ _ h => h
  try simp only [Act.put, List.setIfInBounds_toArray, List.set_cons_zero, List.set_cons_succ]
  refine wpAnyH_take (i := 18) (oi := ?oi18) (v := undef) ?hi18 (by kernel_rfl) (by kernel_rfl) (by kernel_rfl) ?hQ18 (Or.inr ⟨?hw18, rfl⟩) (by assumption) ?hh18
  case hi18 => simp only [List.getElem?_toArray, List.getElem?_cons_succ, List.getElem?_cons_zero]; rfl
  case hw18 => rfl
  case hQ18 => exact fun _ _ _ h => h
  try simp only [Act.put, List.setIfInBounds_toArray, List.set_cons_zero, List.set_cons_succ]
  refine wpAnyH_take (i := 19) (oi := ?oi19) (v := undef) ?hi19 (by kernel_rfl) (by kernel_rfl) (by kernel_rfl) ?hQ19 (Or.inr ⟨?hw19, rfl⟩) (by assumption) ?hh19
  case hi19 => simp only [List.getElem?_toArray, List.getElem?_cons_succ, List.getElem?_cons_zero]; rfl
  case hw19 => rfl
  case hQ19 => exact fun _ _ _ h => h
  try simp only [Act.put, List.setIfInBounds_toArray, List.set_cons_zero, List.set_cons_succ]
  refine wpAnyH_take (i := 20) (oi := ?oi20) (v := undef) ?hi20 (by kernel_rfl) (by kernel_rfl) (by kernel_rfl) ?hQ20 (Or.inr ⟨?hw20, rfl⟩) (by assumption) ?hh20
  case hi20 => simp only [List.getElem?_toArray, List.getElem?_cons_succ, List.getElem?_cons_zero]; rfl
  case hw20 => rfl
  case hQ20 => exact fun _ _ _ h => h
  try simp only [Act.put, List.setIfInBounds_toArray, List.set_cons_zero, List.set_cons_succ]
  refine wpAnyH_take (i := 21) (oi := ?oi21) (v := undef) ?hi21 (by kernel_rfl) (by kernel_rfl) (by kernel_rfl) ?hQ21 (Or.inr ⟨?hw21, rfl⟩) (by assumption) ?hh21
  case hi21 => simp only [List.getElem?_toArray, List.getElem?_cons_succ, List.getElem?_cons_zero]; rfl
  case hw21 => rfl
  case hQ21 => exact fun _ _ _ h => h
  try simp only [Act.put, List.setIfInBounds_toArray, List.set_cons_zero, List.set_cons_succ]
  refine wpAnyH_take (i := 22) (oi := ?oi22) (v := undef) ?hi22 (by kernel_rfl) (by kernel_rfl) (by kernel_rfl) ?hQ22 (Or.inr ⟨?hw22, rfl⟩) (by assumption) ?hh22
  case hi22 => simp only [List.getElem?_toArray, List.getElem?_cons_succ, List.getElem?_cons_zero]; rfl
  case hw22 => rfl
  case hQ22 => exact fun _ _ _ h => h
  try simp only [Act.put, List.setIfInBounds_toArray, List.set_cons_zero, List.set_cons_succ]
  refine wpAnyH_take (i := 23) (oi := ?oi23) (v := undef) ?hi23 (by kernel_rfl) (by kernel_rfl) (by kernel_rfl) ?hQ23 (Or.inr ⟨?hw23, rfl⟩) (by assumption) ?hh23
  case hi23 => simp only [List.getElem?_toArray, List.getElem?_cons_succ, List.getElem?_cons_zero]; rfl
  case hw23 => rfl
  case hQ23 => exact fun _ _ _ h => h
  try simp only [Act.put, List.setIfInBounds_toArray, List.set_cons_zero, List.set_cons_succ]
  refine wpAnyH_take (i := 24) (oi := ?oi24) (v := undef) ?hi24 (by kernel_rfl) (by kernel_rfl) (by kernel_rfl) ?hQ24 (Or.inr ⟨?hw24, rfl⟩) (by assumption) ?hh24
  case hi24 => simp only [List.getElem?_toArray, List.getElem?_cons_succ, List.getElem?_cons_zero]; rfl
  case hw24 => rfl
  case hQ24 => exact fun _ _ _ h => h
  try simp only [Act.put, List.setIfInBounds_toArray, List.set_cons_zero, List.set_cons_succ]
  refine wpAnyH_take (i := 25) (oi := ?oi25) (v := ?vv25) ?hi25 (by kernel_rfl) (by kernel_rfl) (by kernel_rfl) ?hQ25 (Or.inl ⟨?hw25, ?hy25⟩) (by assumption) ?hh25
  case hi25 => simp only [List.getElem?_toArray, List.getElem?_cons_succ, List.getElem?_cons_zero]; rfl
  case hw25 => rfl
  case hy25 => (intro w hSw; (try dsimp only at hSw); go_simp; (try with_reducible rfl))
  case hQ25 => exact fun _ _ _ h => h
  try simp only [Act.put, List.setIfInBounds_toArray, List.set_cons_zero, List.set_cons_succ]
  refine wpAnyH_take (i := 26) (oi := ?oi26) (v := ?vv26) ?hi26 (by kernel_rfl) (by kernel_rfl) (by kernel_rfl) ?hQ26 (Or.inl ⟨?hw26, ?hy26⟩) (by assumption) ?hh26
  case hi26 => simp only [List.getElem?_toArray, List.getElem?_cons_succ, List.getElem?_cons_zero]; rfl
  case hw26 => rfl
  case hy26 => (intro w hSw; (try dsimp only at hSw); go_simp; (try with_reducible rfl))
  case hQ26 => exact fun _ _ _ h => h
  try simp only [Act.put, List.setIfInBounds_toArray, List.set_cons_zero, List.set_cons_succ]
  refine wpAnyH_take (i := 27) (oi := ?oi27) (v := undef) ?hi27 (by kernel_rfl) (by kernel_rfl) (by kernel_rfl) ?hQ27 (Or.inr ⟨?hw27, rfl⟩) (by assumption) ?hh27
  case hi27 => simp only [List.getElem?_toArray, List.getElem?_cons_succ, List.getElem?_cons_zero]; rfl
  case hw27 => rfl
  case hQ27 => exact fun _ _ _ h => h
  try simp only [Act.put, List.setIfInBounds_toArray, List.set_cons_zero, List.set_cons_succ]
  refine wpAnyH_take (i := 28) (oi := ?oi28) (v := undef) ?hi28 (by kernel_rfl) (by kernel_rfl) (by kernel_rfl) ?hQ28 (Or.inr ⟨?hw28, rfl⟩) (by assumption) ?hh28
  case hi28 => simp only [List.getElem?_toArray, List.getElem?_cons_succ, List.getElem?_cons_zero]; rfl
  case hw28 => rfl
  case hQ28 => exact fun _ _ _ h => h
  try simp only [Act.put, List.setIfInBounds_toArray, List.set_cons_zero, List.set_cons_succ]
  refine wpAnyH_take (i := 29) (oi := ?oi29) (v := undef) ?hi29 (by kernel_rfl) (by kernel_rfl) (by kernel_rfl) ?hQ29 (Or.inr ⟨?hw29, rfl⟩) (by assumption) ?hh29
  case hi29 => simp only [List.getElem?_toArray, List.getElem?_cons_succ, List.getElem?_cons_zero]; rfl
  case hw29 => rfl
  case hQ29 => exact fun _ _ _ h => h
  try simp only [Act.put, List.setIfInBounds_toArray, List.set_cons_zero, List.set_cons_succ]
  refine wpAnyH_take (i := 30) (oi := ?oi30) (v := undef) ?hi30 (by kernel_rfl) (by kernel_rfl) (by kernel_rfl) ?hQ30 (Or.inr ⟨?hw30, rfl⟩) (by assumption) ?hh30
  case hi30 => simp only [List.getElem?_toArray, List.getElem?_cons_succ, List.getElem?_cons_zero]; rfl
  case hw30 => rfl
  case hQ30 => exact fun _ _ _ h => h
  try simp only [Act.put, List.setIfInBounds_toArray, List.set_cons_zero, List.set_cons_succ]
  refine wpAnyH_take (i := 31) (oi := ?oi31) (v := undef) ?hi31 (by kernel_rfl) (by kernel_rfl) (by kernel_rfl) ?hQ31 (Or.inr ⟨?hw31, rfl⟩) (by assumption) ?hh31
  case hi31 => simp only [List.getElem?_toArray, List.getElem?_cons_succ, List.getElem?_cons_zero]; rfl
  case hw31 => rfl
  case hQ31 => exact fun _ _ _ h => h
  try simp only [Act.put, List.setIfInBounds_toArray, List.set_cons_zero, List.set_cons_succ]
  refine wpAnyH_take (i := 32) (oi := ?oi32) (v := undef) ?hi32 (by kernel_rfl) (by kernel_rfl) (by kernel_rfl) ?hQ32 (Or.inr ⟨?hw32, rfl⟩) (by assumption) ?hh32
  case hi32 => simp only [List.getElem?_toArray, List.getElem?_cons_succ, List.getElem?_cons_zero]; rfl
  case hw32 => rfl
  case hQ32 => exact fun _ _ _ h => h
  try simp only [Act.put, List.setIfInBounds_toArray, List.set_cons_zero, List.set_cons_succ]
  refine wpAnyH_take (i := 33) (oi := ?oi33) (v := undef) ?hi33 (by kernel_rfl) (by kernel_rfl) (by kernel_rfl) ?hQ33 (Or.inr ⟨?hw33, rfl⟩) (by assumption) ?hh33
  case hi33 => simp only [List.getElem?_toArray, List.getElem?_cons_succ, List.getElem?_cons_zero]; rfl
  case hw33 => rfl
  case hQ33 => exact fun _ _ _ h => h
  try simp only [Act.put, List.setIfInBounds_toArray, List.set_cons_zero, List.set_cons_succ]
  refine wpAnyH_take (i := 34) (oi := ?oi34) (v := ?vv34) ?hi34 (by kernel_rfl) (by kernel_rfl) (by kernel_rfl) ?hQ34 (Or.inl ⟨?hw34, ?hy34⟩) (by assumption) ?hh34
  case hi34 => simp only [List.getElem?_toArray, List.getElem?_cons_succ, List.getElem?_cons_zero]; rfl
  case hw34 => rfl
  case hy34 => (intro w hSw; (try dsimp only at hSw); go_simp; (try with_reducible rfl))
  case hQ34 => exact fun _ _ _ h => h
  try simp only [Act.put, List.setIfInBounds_toArray, List.set_cons_zero, List.set_cons_succ]
  refine wpAnyH_done (by kernel_rfl) ?_ _
  go_split_ands
  go_wp2_with fail
  go_ret
  exact ⟨rfl, HB.out.trans (Below.mono (by assumption) (by omega))⟩


set_option maxRecDepth 100000 in
set_option maxHeartbeats 8000000 in
theorem order_a (l : Lk) (hl : l.Ok) (A1 A2 A3 A4 A5 : Option Addr) (c1 c2 c3 c4 c5 : Nat) (params : Int) (gen : Bool) (at_ : Int) (i : Ord) (fa fb fc : UInt8) (hf : formF i.op = some (fa, fb, fc)) (hline : withinF i.line 0 2000 = true) (hna : namesF l fa i.a = false) (w : World) :
    Calls Tryd.prog 121 #[.agg (lookOf l A1 A2 A3 A4 A5 c1 c2 c3 c4 c5 params gen), .int .i64 at_, .agg i.cells] w fun e w' => e = .returned (.bool false) ∧ Below w.heap.size w w' := by
  obtain ⟨op, a, b, c, line⟩ := i
  obtain ⟨nf, nc, nt, regs, ng, no⟩ := l
  have hl' := hl
  obtain ⟨k1, k2, k3, k4, k5, k6, k7⟩ := hl'
  unfold Ord.cells
  unfold lookOf
  simp only at hf hl hline hna k1 k2 k3 k4 k5 k6 k7 ⊢
  have hs : formS op = ⟨#[fa, fb, fc]⟩ := by simp [formS, hf]
  have HF := Lib.hid (fun w => form_any op w)
  rw [hs] at HF
  obtain ⟨la, lb, lc⟩ := form_letters hf
  have HN1 := Lib.hid (fun w' => names_any ⟨nf, nc, nt, regs, ng, no⟩ hl A1 A2 A3 A4 A5 c1 c2 c3 c4 c5 params gen fa (by rcases la with h | h | h <;> simp [Letter, h]) a w')
  have HN2 := Lib.hid (fun w' => names_any ⟨nf, nc, nt, regs, ng, no⟩ hl A1 A2 A3 A4 A5 c1 c2 c3 c4 c5 params gen fb (by rcases lb with h | h | h | h | h | h | h | h | h <;> simp [Letter, h]) b w')
  have HN3 := Lib.hid (fun w' => names_any ⟨nf, nc, nt, regs, ng, no⟩ hl A1 A2 A3 A4 A5 c1 c2 c3 c4 c5 params gen fc (by rcases lc with h | h | h | h <;> simp [Letter, h]) c w')
  simp only at HN1 HN2 HN3
  rw [hna] at HN1
  have HL := Lib.hid (fun w' => within_below line 0 2000 _ hline w')
  obtain ⟨W0, hW0⟩ : ∃ W0, W0 = (w.alloc (.cells (lookCells (.slice A1 nf c1) (.slice A2 nc c2) (.slice A3 nt c3) params regs gen (.slice A4 ng c4) (.slice A5 no c5)) 187)).alloc (.cells #[.int .i64 op, .int .i64 a, .int .i64 b, .int .i64 c, .int .i64 line] 189) := ⟨_, rfl⟩
  have sz0 : W0.heap.size = w.heap.size + 2 := by rw [hW0]; simp
  have B0 : Below w.heap.size w W0 := by rw [hW0]; exact ((Below.refl _ _).alloc (Nat.le_refl _) _).alloc (by simp) _
  have fa_ : ∀ w', Below (w.heap.size + 2) W0 w' → w'.cell? ⟨w.heap.size, 0, none⟩ = some (.slice A1 nf c1) ∧ w'.cell? ⟨w.heap.size, 1, none⟩ = some (.slice A2 nc c2) ∧ w'.cell? ⟨w.heap.size, 2, none⟩ = some (.slice A3 nt c3) ∧ w'.cell? ⟨w.heap.size, 3, none⟩ = some (.int .i64 params) ∧ w'.cell? ⟨w.heap.size, 4, none⟩ = some (.int .i64 regs) ∧ w'.cell? ⟨w.heap.size, 5, none⟩ = some (.bool gen) ∧ w'.cell? ⟨w.heap.size, 6, none⟩ = some (.slice A4 ng c4) ∧ w'.cell? ⟨w.heap.size, 7, none⟩ = some (.slice A5 no c5) ∧
      w'.cell? ⟨w.heap.size + 1, 0, none⟩ = some (.int .i64 op) ∧ w'.cell? ⟨w.heap.size + 1, 1, none⟩ = some (.int .i64 a) ∧ w'.cell? ⟨w.heap.size + 1, 2, none⟩ = some (.int .i64 b) ∧ w'.cell? ⟨w.heap.size + 1, 3, none⟩ = some (.int .i64 c) ∧ w'.cell? ⟨w.heap.size + 1, 4, none⟩ = some (.int .i64 line) ∧
      w.heap.size + 1 < w'.heap.size ∧ Below (w.heap.size + 2) W0 w' := fun w' h' => by
    have e : ∀ i, w'.cell? ⟨w.heap.size, i, none⟩ = W0.cell? ⟨w.heap.size, i, none⟩ := fun i => h'.cell (p := ⟨w.heap.size, i, none⟩) (by simp)
    have e' : ∀ i, w'.cell? ⟨w.heap.size + 1, i, none⟩ = W0.cell? ⟨w.heap.size + 1, i, none⟩ := fun i => h'.cell (p := ⟨w.heap.size + 1, i, none⟩) (by simp)
    refine ⟨?_, ?_, ?_, ?_, ?_, ?_, ?_, ?_, ?_, ?_, ?_, ?_, ?_, by have := h'.size; omega, h'⟩ <;> (first | rw [e, hW0] | rw [e', hW0]) <;> simp [lookCells]
  have HFA := Lib.hid fa_
  have HB := Lib.hid B0
  have HW := Lib.hid hW0
  have HS := Lib.hid sz0
  clear fa_ B0 hW0 sz0 hf hs la lb lc hl
  go_enter Tryd.func121, Tryd.ntmps121
  go_wp2_with fail
  refine (HF.out _).mono ?_
  rintro e w1 ⟨rfl, hb⟩
  have hb1 : Below (w.heap.size + 2) W0 w1 := by rw [HW.out]; simpa using hb
  obtain ⟨q0, q1, q2, q3, q4, q5, q6, q7, p0, p1, p2, p3, p4, szs, hb2⟩ := HFA.out _ hb1
  clear hb hb1
  go_wp2_with fail
  refine wp_region_held_drew (S := fun w' => w'.cell? ⟨w.heap.size, 0, none⟩ = some (.slice A1 nf c1) ∧ w'.cell? ⟨w.heap.size, 1, none⟩ = some (.slice A2 nc c2) ∧ w'.cell? ⟨w.heap.size, 2, none⟩ = some (.slice A3 nt c3) ∧ w'.cell? ⟨w.heap.size, 3, none⟩ = some (.int .i64 params) ∧ w'.cell? ⟨w.heap.size, 4, none⟩ = some (.int .i64 regs) ∧ w'.cell? ⟨w.heap.size, 5, none⟩ = some (.bool gen) ∧ w'.cell? ⟨w.heap.size, 6, none⟩ = some (.slice A4 ng c4) ∧ w'.cell? ⟨w.heap.size, 7, none⟩ = some (.slice A5 no c5) ∧
      w'.cell? ⟨w.heap.size + 1, 0, none⟩ = some (.int .i64 op) ∧ w'.cell? ⟨w.heap.size + 1, 1, none⟩ = some (.int .i64 a) ∧ w'.cell? ⟨w.heap.size + 1, 2, none⟩ = some (.int .i64 b) ∧ w'.cell? ⟨w.heap.size + 1, 3, none⟩ = some (.int .i64 c) ∧ w'.cell? ⟨w.heap.size + 1, 4, none⟩ = some (.int .i64 line) ∧
      w.heap.size + 1 < w'.heap.size ∧ Below (w.heap.size + 2) W0 w') (by kernel_rfl) (HFA.out _ (Below.drew (by assumption))) (fun hHeld => ?_)
  try dsimp only
  refine wpAnyH_take (i := 0) (oi := ?oi0) (v := ?vv0) ?hi0 (by kernel_rfl) (by kernel_rfl) (by kernel_rfl) ?hQ0 (Or.inl ⟨?hw0, ?hy0⟩) (by assumption) ?hh0
  case hi0 => simp only [List.getElem?_toArray, List.getElem?_cons_succ, List.getElem?_cons_zero]; rfl
  case hw0 => rfl
  case hy0 => (intro w hSw; (try dsimp only at hSw); go_simp; (try with_reducible rfl))
  case hQ0 => exact fun _ _ _ h => h
  try simp only [Act.put, List.setIfInBounds_toArray, List.set_cons_zero, List.set_cons_succ]
  refine wpAnyH_take (i := 1) (oi := ?oi1) (v := ?vv1) ?hi1 (by kernel_rfl) (by kernel_rfl) (by kernel_rfl) ?hQ1 (Or.inl ⟨?hw1, ?hy1⟩) (by assumption) ?hh1
  case hi1 => simp only [List.getElem?_toArray, List.getElem?_cons_succ, List.getElem?_cons_zero]; rfl
  case hw1 => rfl
  case hy1 => (intro w hSw; (try dsimp only at hSw); go_simp; (try with_reducible rfl))
  case hQ1 => exact fun _ _ _ h => h
  try simp only [Act.put, List.setIfInBounds_toArray, List.set_cons_zero, List.set_cons_succ]
  refine wpAnyH_take (i := 2) (oi := ?oi2) (v := ?vv2) ?hi2 (by kernel_rfl) (by kernel_rfl) (by kernel_rfl) ?hQ2 (Or.inl ⟨?hw2, ?hy2⟩) (by assumption) ?hh2
  case hi2 => simp only [List.getElem?_toArray, List.getElem?_cons_succ, List.getElem?_cons_zero]; rfl
  case hw2 => rfl
  case hy2 => (intro w hSw; (try dsimp only at hSw); go_simp; (try with_reducible rfl))
  case hQ2 => exact fun _ _ _ h => h
  try simp only [Act.put, List.setIfInBounds_toArray, List.set_cons_zero, List.set_cons_succ]
  refine wpAnyH_take (i := 3) (oi := ?oi3) (v := ?vv3) ?hi3 (by kernel_rfl) (by kernel_rfl) (by kernel_rfl) ?hQ3 (Or.inl ⟨?hw3, ?hy3⟩) (by assumption) ?hh3
  case hi3 => simp only [List.getElem?_toArray, List.getElem?_cons_succ, List.getElem?_cons_zero]; rfl
  case hw3 => rfl
  case hy3 => (intro w hSw; (try dsimp only at hSw); go_simp; (try with_reducible rfl))
  case hQ3 => exact fun _ _ _ h => h
  try simp only [Act.put, List.setIfInBounds_toArray, List.set_cons_zero, List.set_cons_succ]
  refine wpAnyH_take (i := 4) (oi := ?oi4) (v := ?vv4) ?hi4 (by kernel_rfl) (by kernel_rfl) (by kernel_rfl) ?hQ4 (Or.inl ⟨?hw4, ?hy4⟩) (by assumption) ?hh4
  case hi4 => simp only [List.getElem?_toArray, List.getElem?_cons_succ, List.getElem?_cons_zero]; rfl
  case hw4 => rfl
  case hy4 => (intro w hSw; (try dsimp only at hSw); go_simp; (try with_reducible rfl))
  case hQ4 => exact fun _ _ _ h => h
  try simp only [Act.put, List.setIfInBounds_toArray, List.set_cons_zero, List.set_cons_succ]
  refine wpAnyH_ready (rs := [5]) (by kernel_rfl) (by simp) ?_
  refine AllReadyH.cons (o := ?oi5) ?hi5 (fun K hK => ?hh5) AllReadyH.nil
  case hi5 => simp only [List.getElem?_toArray, List.getElem?_cons_succ, List.getElem?_cons_zero]; rfl
  go_simp
  go_at_call 145
  refine (HL.out _).mono ?_
  rintro e w' ⟨rfl, hbb⟩
  go_wp2_with fail
  refine hK.out _ _ ?_ (fun hHeld2 => ?_)
  · (first | exact HFA.out _ (Below.drew (by assumption)) | (go_split_ands; exact HFA.out _ ((by assumption : Below (w.heap.size + 2) W0 _).trans (hbb.mono (by omega)))))
  clear hK K hHeld
  have hHeld := hHeld2
  clear hHeld2
  try simp only [Act.put, List.setIfInBounds_toArray, List.set_cons_zero, List.set_cons_succ]
  refine wpAnyH_take (i := 6) (oi := ?oi6) (v := ?vv6) ?hi6 (by kernel_rfl) (by kernel_rfl) (by kernel_rfl) ?hQ6 (Or.inl ⟨?hw6, ?hy6⟩) (by assumption) ?hh6
  case hi6 => simp only [List.getElem?_toArray, List.getElem?_cons_succ, List.getElem?_cons_zero]; rfl
  case hw6 => rfl
  case hy6 => (intro w hSw; (try dsimp only at hSw); go_simp; (try with_reducible rfl))
  case hQ6 => exact fun _ _ _ h => h
  try simp only [Act.put, List.setIfInBounds_toArray, List.set_cons_zero, List.set_cons_succ]
  refine wpAnyH_take (i := 7) (oi := ?oi7) (v := ?vv7) ?hi7 (by kernel_rfl) (by kernel_rfl) (by kernel_rfl) ?hQ7 (Or.inl ⟨?hw7, ?hy7⟩) (by assumption) ?hh7
  case hi7 => simp only [List.getElem?_toArray, List.getElem?_cons_succ, List.getElem?_cons_zero]; rfl
  case hw7 => rfl
  case hy7 => (intro w hSw; (try dsimp only at hSw); go_simp; (try with_reducible rfl))
  case hQ7 => exact fun _ _ _ h => h
  try simp only [Act.put, List.setIfInBounds_toArray, List.set_cons_zero, List.set_cons_succ]
  refine wpAnyH_take (i := 8) (oi := ?oi8) (v := ?vv8) ?hi8 (by kernel_rfl) (by kernel_rfl) (by kernel_rfl) ?hQ8 (Or.inl ⟨?hw8, ?hy8⟩) (by assumption) ?hh8
  case hi8 => simp only [List.getElem?_toArray, List.getElem?_cons_succ, List.getElem?_cons_zero]; rfl
  case hw8 => rfl
  case hy8 => (intro w hSw; (try dsimp only at hSw); go_simp; (try with_reducible rfl))
  case hQ8 => exact fun _ _ _ h => h
  try simp only [Act.put, List.setIfInBounds_toArray, List.set_cons_zero, List.set_cons_succ]
  refine wpAnyH_take (i := 9) (oi := ?oi9) (v := ?vv9) ?hi9 (by kernel_rfl) (by kernel_rfl) (by kernel_rfl) ?hQ9 (Or.inl ⟨?hw9, ?hy9⟩) (by assumption) ?hh9
  case hi9 => simp only [List.getElem?_toArray, List.getElem?_cons_succ, List.getElem?_cons_zero]; rfl
  case hw9 => rfl
  case hy9 => (intro w hSw; (try dsimp only at hSw); go_simp; (try with_reducible rfl))
  case hQ9 => exact fun _ _ _ h => h
  try simp only [Act.put, List.setIfInBounds_toArray, List.set_cons_zero, List.set_cons_succ]
  refine wpAnyH_take (i := 10) (oi := ?oi10) (v := ?vv10) ?hi10 (by kernel_rfl) (by kernel_rfl) (by kernel_rfl) ?hQ10 (Or.inl ⟨?hw10, ?hy10⟩) (by assumption) ?hh10
  case hi10 => simp only [List.getElem?_toArray, List.getElem?_cons_succ, List.getElem?_cons_zero]; rfl
  case hw10 => rfl
  case hy10 => (intro w hSw; (try dsimp only at hSw); go_simp; (try with_reducible rfl))
  case hQ10 => exact fun _ _ _ h => h
  try simp only [Act.put, List.setIfInBounds_toArray, List.set_cons_zero, List.set_cons_succ]
  refine wpAnyH_take (i := 11) (oi := ?oi11) (v := ?vv11) ?hi11 (by kernel_rfl) (by kernel_rfl) (by kernel_rfl) ?hQ11 (Or.inl ⟨?hw11, ?hy11⟩) (by assumption) ?hh11
  case hi11 => simp only [List.getElem?_toArray, List.getElem?_cons_succ, List.getElem?_cons_zero]; rfl
  case hw11 => rfl
  case hy11 => (intro w hSw; (try dsimp only at hSw); go_simp; (try with_reducible rfl))
  case hQ11 => exact fun _ _ _ h => h
  try simp only [Act.put, List.setIfInBounds_toArray, List.set_cons_zero, List.set_cons_succ]
  refine wpAnyH_take (i := 12) (oi := ?oi12) (v := ?vv12) ?hi12 (by kernel_rfl) (by kernel_rfl) (by kernel_rfl) ?hQ12 (Or.inl ⟨?hw12, ?hy12⟩) (by assumption) ?hh12
  case hi12 => simp only [List.getElem?_toArray, List.getElem?_cons_succ, List.getElem?_cons_zero]; rfl
  case hw12 => rfl
  case hy12 => (intro w hSw; (try dsimp only at hSw); go_simp; (try with_reducible rfl))
  case hQ12 => exact fun _ _ _ h => h
  try simp only [Act.put, List.setIfInBounds_toArray, List.set_cons_zero, List.set_cons_succ]
  refine wpAnyH_take (i := 13) (oi := ?oi13) (v := ?vv13) ?hi13 (by kernel_rfl) (by kernel_rfl) (by kernel_rfl) ?hQ13 (Or.inl ⟨?hw13, ?hy13⟩) (by assumption) ?hh13
  case hi13 => simp only [List.getElem?_toArray, List.getElem?_cons_succ, List.getElem?_cons_zero]; rfl
  case hw13 => rfl
  case hy13 => (intro w hSw; (try dsimp only at hSw); go_simp; (try with_reducible rfl))
  case hQ13 => exact fun _ _ _ h => h
  try simp only [Act.put, List.setIfInBounds_toArray, List.set_cons_zero, List.set_cons_succ]
  refine wpAnyH_ready (rs := [14]) (by kernel_rfl) (by simp) ?_
  refine AllReadyH.cons (o := ?oi14) ?hi14 (fun K hK => ?hh14) AllReadyH.nil
  case hi14 => simp only [List.getElem?_toArray, List.getElem?_cons_succ, List.getElem?_cons_zero]; rfl
  go_simp
  go_at_call 146
  refine (HN1.out _).mono ?_
  rintro e w' ⟨rfl, hbb⟩
  go_wp2_with fail
  refine hK.out _ _ ?_ (fun hHeld2 => ?_)
  · (first | exact HFA.out _ (Below.drew (by assumption)) | (go_split_ands; exact HFA.out _ ((by assumption : Below (w.heap.size + 2) W0 _).trans (hbb.mono (by omega)))))
  clear hK K hHeld
  have hHeld := hHeld2
  clear hHeld2
  try simp only [Act.put, List.setIfInBounds_toArray, List.set_cons_zero, List.set_cons_succ]
  refine wpAnyH_take (i := 15) (oi := ?oi15) (v := ?vv15) ?hi15 (by kernel_rfl) (by kernel_rfl) (by kernel_rfl) ?hQ15 (Or.inl ⟨?hw15, ?hy15⟩) (by assumption) ?hh15
  case hi15 => simp only [List.getElem?_toArray, List.getElem?_cons_succ, List.getElem?_cons_zero]; rfl
  case hw15 => rfl
  case hy15 => (intro w hSw; (try dsimp only at hSw); go_simp; (try with_reducible rfl))
  case hQ15 => exact fun _ _ _ h => h
  try simp only [Act.put, List.setIfInBounds_toArray, List.set_cons_zero, List.set_cons_succ]
  refine wpAnyH_take (i := 16) (oi := ?oi16) (v := ?vv16) ?hi16 (by kernel_rfl) (by kernel_rfl) (by kernel_rfl) ?hQ16 (Or.inl ⟨?hw16, ?hy16⟩) (by assumption) ?hh16
  case hi16 => simp only [List.getElem?_toArray, List.getElem?_cons_succ, List.getElem?_cons_zero]; rfl
  case hw16 => rfl
  case hy16 => (intro w hSw; (try dsimp only at hSw); go_simp; (try with_reducible rfl))
  case hQ16 => exact fun _ _ _ h => h
  try simp only [Act.put, List.setIfInBounds_toArray, List.set_cons_zero, List.set_cons_succ]
  refine wpAnyH_take (i := 17) (oi := ?oi17) (v := ?vv17) ?hi17 (by kernel_rfl) (by kernel_rfl) (by kernel_rfl) ?hQ17 (Or.inl ⟨?hw17, ?hy17⟩) (by assumption) ?hh17
  case hi17 => simp only [List.getElem?_toArray, List.getElem?_cons_succ, List.getElem?_cons_zero]; rfl
  case hw17 => rfl
  case hy17 => (intro w hSw; (try dsimp only at hSw); go_simp; (try with_reducible rfl))
  case hQ17 => exact fun _ _ _ h => h
  try simp only [Act.put, List.setIfInBounds_toArray, List.set_cons_zero, List.set_cons_succ]
  refine wpAnyH_take (i := 18) (oi := ?oi18) (v := undef) ?hi18 (by kernel_rfl) (by kernel_rfl) (by kernel_rfl) ?hQ18 (Or.inr ⟨?hw18, rfl⟩) (by assumption) ?hh18
  case hi18 => simp only [List.getElem?_toArray, List.getElem?_cons_succ, List.getElem?_cons_zero]; rfl
  case hw18 => rfl
  case hQ18 => exact fun _ _ _ h => h
  try simp only [Act.put, List.setIfInBounds_toArray, List.set_cons_zero, List.set_cons_succ]
  refine wpAnyH_take (i := 19) (oi := ?oi19) (v := undef) ?hi19 (by kernel_rfl) (by kernel_rfl) (by kernel_rfl) ?hQ19 (Or.inr ⟨?hw19, rfl⟩) (by assumption) ?hh19
  case hi19 => simp only [List.getElem?_toArray, List.getElem?_cons_succ, List.getElem?_cons_zero]; rfl
  case hw19 => rfl
  case hQ19 => exact fun _ _ _ h => h
  try simp only [Act.put, List.setIfInBounds_toArray, List.set_cons_zero, List.set_cons_succ]
  refine wpAnyH_take (i := 20) (oi := ?oi20) (v := undef) ?hi20 (by kernel_rfl) (by kernel_rfl) (by kernel_rfl) ?hQ20 (Or.inr ⟨?hw20, rfl⟩) (by assumption) ?hh20
  case hi20 => simp only [List.getElem?_toArray, List.getElem?_cons_succ, List.getElem?_cons_zero]; rfl
  case hw20 => rfl
  case hQ20 => exact fun _ _ _ h => h
  try simp only [Act.put, List.setIfInBounds_toArray, List.set_cons_zero, List.set_cons_succ]
  refine wpAnyH_take (i := 21) (oi := ?oi21) (v := undef) ?hi21 (by kernel_rfl) (by kernel_rfl) (by kernel_rfl) ?hQ21 (Or.inr ⟨?hw21, rfl⟩) (by assumption) ?hh21
  case hi21 => simp only [List.getElem?_toArray, List.getElem?_cons_succ, List.getElem?_cons_zero]; rfl
  case hw21 => rfl
  case hQ21 => exact fun _ _ _ h => h
  try simp only [Act.put, List.setIfInBounds_toArray, List.set_cons_zero, List.set_cons_succ]
  refine wpAnyH_take (i := 22) (oi := ?oi22) (v := undef) ?hi22 (by kernel_rfl) (by kernel_rfl) (by kernel_rfl) ?hQ22 (Or.inr ⟨?hw22, rfl⟩) (by assumption) ?hh22
  case hi22 => simp only [List.getElem?_toArray, List.getElem?_cons_succ, List.getElem?_cons_zero]; rfl
  case hw22 => rfl
  case hQ22 => exact fun _ _ _ h => h
  try simp only [Act.put, List.setIfInBounds_toArray, List.set_cons_zero, List.set_cons_succ]
  refine wpAnyH_take (i := 23) (oi := ?oi23) (v := undef) ?hi23 (by kernel_rfl) (by kernel_rfl) (by kernel_rfl) ?hQ23 (Or.inr ⟨?hw23, rfl⟩) (by assumption) ?hh23
  case hi23 => simp only [List.getElem?_toArray, List.getElem?_cons_succ, List.getElem?_cons_zero]; rfl
  case hw23 => rfl
  case hQ23 => exact fun _ _ _ h => h
  try simp only [Act.put, List.setIfInBounds_toArray, List.set_cons_zero, List.set_cons_succ]
  refine wpAnyH_take (i := 24) (oi := ?oi24) (v := undef) ?hi24 (by kernel_rfl) (by kernel_rfl) (by kernel_rfl) ?hQ24 (Or.inr ⟨?hw24, rfl⟩) (by assumption) ?hh24
  case hi24 => simp only [List.getElem?_toArray, List.getElem?_cons_succ, List.getElem?_cons_zero]; rfl
  case hw24 => rfl
  case hQ24 => exact fun _ _ _ h => h
  try simp only [Act.put, List.setIfInBounds_toArray, List.set_cons_zero, List.set_cons_succ]
  refine wpAnyH_take (i := 25) (oi := ?oi25) (v := ?vv25) ?hi25 (by kernel_rfl) (by kernel_rfl) (by kernel_rfl) ?hQ25 (Or.inl ⟨?hw25, ?hy25⟩) (by assumption) ?hh25
  case hi25 => simp only [List.getElem?_toArray, List.getElem?_cons_succ, List.getElem?_cons_zero]; rfl
  case hw25 => rfl
  case hy25 => (intro w hSw; (try dsimp only at hSw); go_simp; (try with_reducible rfl))
  case hQ25 => exact fun _ _ _ h => h
  try simp only [Act.put, List.setIfInBounds_toArray, List.set_cons_zero, List.set_cons_succ]
  refine wpAnyH_take (i := 26) (oi := ?oi26) (v := ?vv26) ?hi26 (by kernel_rfl) (by kernel_rfl) (by kernel_rfl) ?hQ26 (Or.inl ⟨?hw26, ?hy26⟩) (by assumption) ?hh26
  case hi26 => simp only [List.getElem?_toArray, List.getElem?_cons_succ, List.getElem?_cons_zero]; rfl
  case hw26 => rfl
  case hy26 => (intro w hSw; (try dsimp only at hSw); go_simp; (try with_reducible rfl))
  case hQ26 => exact fun _ _ _ h => h
  try simp only [Act.put, List.setIfInBounds_toArray, List.set_cons_zero, List.set_cons_succ]
  refine wpAnyH_take (i := 27) (oi := ?oi27) (v := undef) ?hi27 (by kernel_rfl) (by kernel_rfl) (by kernel_rfl) ?hQ27 (Or.inr ⟨?hw27, rfl⟩) (by assumption) ?hh27
  case hi27 => simp only [List.getElem?_toArray, List.getElem?_cons_succ, List.getElem?_cons_zero]; rfl
  case hw27 => rfl
  case hQ27 => exact fun _ _ _ h => h
  try simp only [Act.put, List.setIfInBounds_toArray, List.set_cons_zero, List.set_cons_succ]
  refine wpAnyH_take (i := 28) (oi := ?oi28) (v := undef) ?hi28 (by kernel_rfl) (by kernel_rfl) (by kernel_rfl) ?hQ28 (Or.inr ⟨?hw28, rfl⟩) (by assumption) ?hh28
  case hi28 => simp only [List.getElem?_toArray, List.getElem?_cons_succ, List.getElem?_cons_zero]; rfl
  case hw28 => rfl
  case hQ28 => exact fun _ _ _ h => h
  try simp only [Act.put, List.setIfInBounds_toArray, List.set_cons_zero, List.set_cons_succ]
  refine wpAnyH_take (i := 29) (oi := ?oi29) (v := undef) ?hi29 (by kernel_rfl) (by kernel_rfl) (by kernel_rfl) ?hQ29 (Or.inr ⟨?hw29, rfl⟩) (by assumption) ?hh29
  case hi29 => simp only [List.getElem?_toArray, List.getElem?_cons_succ, List.getElem?_cons_zero]; rfl
  case hw29 => rfl
  case hQ29 => exact fun _ _ _ h => h
  try simp only [Act.put, List.setIfInBounds_toArray, List.set_cons_zero, List.set_cons_succ]
  refine wpAnyH_take (i := 30) (oi := ?oi30) (v := undef) ?hi30 (by kernel_rfl) (by kernel_rfl) (by kernel_rfl) ?hQ30 (Or.inr ⟨?hw30, rfl⟩) (by assumption) ?hh30
  case hi30 => simp only [List.getElem?_toArray, List.getElem?_cons_succ, List.getElem?_cons_zero]; rfl
  case hw30 => rfl
  case hQ30 => exact fun _ _ _ h => h
  try simp only [Act.put, List.setIfInBounds_toArray, List.set_cons_zero, List.set_cons_succ]
  refine wpAnyH_take (i := 31) (oi := ?oi31) (v := undef) ?hi31 (by kernel_rfl) (by kernel_rfl) (by kernel_rfl) ?hQ31 (Or.inr ⟨?hw31, rfl⟩) (by assumption) ?hh31
  case hi31 => simp only [List.getElem?_toArray, List.getElem?_cons_succ, List.getElem?_cons_zero]; rfl
  case hw31 => rfl
  case hQ31 => exact fun _ _ _ h => h
  try simp only [Act.put, List.setIfInBounds_toArray, List.set_cons_zero, List.set_cons_succ]
  refine wpAnyH_take (i := 32) (oi := ?oi32) (v := undef) ?hi32 (by kernel_rfl) (by kernel_rfl) (by kernel_rfl) ?hQ32 (Or.inr ⟨?hw32, rfl⟩) (by assumption) ?hh32
  case hi32 => simp only [List.getElem?_toArray, List.getElem?_cons_succ, List.getElem?_cons_zero]; rfl
  case hw32 => rfl
  case hQ32 => exact fun _ _ _ h => h
  try simp only [Act.put, List.setIfInBounds_toArray, List.set_cons_zero, List.set_cons_succ]
  refine wpAnyH_take (i := 33) (oi := ?oi33) (v := undef) ?hi33 (by kernel_rfl) (by kernel_rfl) (by kernel_rfl) ?hQ33 (Or.inr ⟨?hw33, rfl⟩) (by assumption) ?hh33
  case hi33 => simp only [List.getElem?_toArray, List.getElem?_cons_succ, List.getElem?_cons_zero]; rfl
  case hw33 => rfl
  case hQ33 => exact fun _ _ _ h => h
  try simp only [Act.put, List.setIfInBounds_toArray, List.set_cons_zero, List.set_cons_succ]
  refine wpAnyH_take (i := 34) (oi := ?oi34) (v := ?vv34) ?hi34 (by kernel_rfl) (by kernel_rfl) (by kernel_rfl) ?hQ34 (Or.inl ⟨?hw34, ?hy34⟩) (by assumption) ?hh34
  case hi34 => simp only [List.getElem?_toArray, List.getElem?_cons_succ, List.getElem?_cons_zero]; rfl
  case hw34 => rfl
  case hy34 => (intro w hSw; (try dsimp only at hSw); go_simp; (try with_reducible rfl))
  case hQ34 => exact fun _ _ _ h => h
  try simp only [Act.put, List.setIfInBounds_toArray, List.set_cons_zero, List.set_cons_succ]
  refine wpAnyH_done (by kernel_rfl) ?_ _
  go_split_ands
  go_wp2_with fail
  go_ret
  exact ⟨rfl, HB.out.trans (Below.mono (by assumption) (by omega))⟩


set_option maxRecDepth 100000 in
set_option maxHeartbeats 8000000 in
theorem order_b (l : Lk) (hl : l.Ok) (A1 A2 A3 A4 A5 : Option Addr) (c1 c2 c3 c4 c5 : Nat) (params : Int) (gen : Bool) (at_ : Int) (i : Ord) (fa fb fc : UInt8) (hf : formF i.op = some (fa, fb, fc)) (hline : withinF i.line 0 2000 = true) (hna : namesF l fa i.a = true) (hnb : namesF l fb i.b = false) (w : World) :
    Calls Tryd.prog 121 #[.agg (lookOf l A1 A2 A3 A4 A5 c1 c2 c3 c4 c5 params gen), .int .i64 at_, .agg i.cells] w fun e w' => e = .returned (.bool false) ∧ Below w.heap.size w w' := by
  obtain ⟨op, a, b, c, line⟩ := i
  obtain ⟨nf, nc, nt, regs, ng, no⟩ := l
  have hl' := hl
  obtain ⟨k1, k2, k3, k4, k5, k6, k7⟩ := hl'
  unfold Ord.cells
  unfold lookOf
  simp only at hf hl hline hna hnb k1 k2 k3 k4 k5 k6 k7 ⊢
  have hs : formS op = ⟨#[fa, fb, fc]⟩ := by simp [formS, hf]
  have HF := Lib.hid (fun w => form_any op w)
  rw [hs] at HF
  obtain ⟨la, lb, lc⟩ := form_letters hf
  have HN1 := Lib.hid (fun w' => names_any ⟨nf, nc, nt, regs, ng, no⟩ hl A1 A2 A3 A4 A5 c1 c2 c3 c4 c5 params gen fa (by rcases la with h | h | h <;> simp [Letter, h]) a w')
  have HN2 := Lib.hid (fun w' => names_any ⟨nf, nc, nt, regs, ng, no⟩ hl A1 A2 A3 A4 A5 c1 c2 c3 c4 c5 params gen fb (by rcases lb with h | h | h | h | h | h | h | h | h <;> simp [Letter, h]) b w')
  have HN3 := Lib.hid (fun w' => names_any ⟨nf, nc, nt, regs, ng, no⟩ hl A1 A2 A3 A4 A5 c1 c2 c3 c4 c5 params gen fc (by rcases lc with h | h | h | h <;> simp [Letter, h]) c w')
  simp only at HN1 HN2 HN3
  rw [hna] at HN1
  rw [hnb] at HN2
  have HL := Lib.hid (fun w' => within_below line 0 2000 _ hline w')
  obtain ⟨W0, hW0⟩ : ∃ W0, W0 = (w.alloc (.cells (lookCells (.slice A1 nf c1) (.slice A2 nc c2) (.slice A3 nt c3) params regs gen (.slice A4 ng c4) (.slice A5 no c5)) 187)).alloc (.cells #[.int .i64 op, .int .i64 a, .int .i64 b, .int .i64 c, .int .i64 line] 189) := ⟨_, rfl⟩
  have sz0 : W0.heap.size = w.heap.size + 2 := by rw [hW0]; simp
  have B0 : Below w.heap.size w W0 := by rw [hW0]; exact ((Below.refl _ _).alloc (Nat.le_refl _) _).alloc (by simp) _
  have fa_ : ∀ w', Below (w.heap.size + 2) W0 w' → w'.cell? ⟨w.heap.size, 0, none⟩ = some (.slice A1 nf c1) ∧ w'.cell? ⟨w.heap.size, 1, none⟩ = some (.slice A2 nc c2) ∧ w'.cell? ⟨w.heap.size, 2, none⟩ = some (.slice A3 nt c3) ∧ w'.cell? ⟨w.heap.size, 3, none⟩ = some (.int .i64 params) ∧ w'.cell? ⟨w.heap.size, 4, none⟩ = some (.int .i64 regs) ∧ w'.cell? ⟨w.heap.size, 5, none⟩ = some (.bool gen) ∧ w'.cell? ⟨w.heap.size, 6, none⟩ = some (.slice A4 ng c4) ∧ w'.cell? ⟨w.heap.size, 7, none⟩ = some (.slice A5 no c5) ∧
      w'.cell? ⟨w.heap.size + 1, 0, none⟩ = some (.int .i64 op) ∧ w'.cell? ⟨w.heap.size + 1, 1, none⟩ = some (.int .i64 a) ∧ w'.cell? ⟨w.heap.size + 1, 2, none⟩ = some (.int .i64 b) ∧ w'.cell? ⟨w.heap.size + 1, 3, none⟩ = some (.int .i64 c) ∧ w'.cell? ⟨w.heap.size + 1, 4, none⟩ = some (.int .i64 line) ∧
      w.heap.size + 1 < w'.heap.size ∧ Below (w.heap.size + 2) W0 w' := fun w' h' => by
    have e : ∀ i, w'.cell? ⟨w.heap.size, i, none⟩ = W0.cell? ⟨w.heap.size, i, none⟩ := fun i => h'.cell (p := ⟨w.heap.size, i, none⟩) (by simp)
    have e' : ∀ i, w'.cell? ⟨w.heap.size + 1, i, none⟩ = W0.cell? ⟨w.heap.size + 1, i, none⟩ := fun i => h'.cell (p := ⟨w.heap.size + 1, i, none⟩) (by simp)
    refine ⟨?_, ?_, ?_, ?_, ?_, ?_, ?_, ?_, ?_, ?_, ?_, ?_, ?_, by have := h'.size; omega, h'⟩ <;> (first | rw [e, hW0] | rw [e', hW0]) <;> simp [lookCells]
  have HFA := Lib.hid fa_
  have HB := Lib.hid B0
  have HW := Lib.hid hW0
  have HS := Lib.hid sz0
  clear fa_ B0 hW0 sz0 hf hs la lb lc hl
  go_enter Tryd.func121, Tryd.ntmps121
  go_wp2_with fail
  refine (HF.out _).mono ?_
  rintro e w1 ⟨rfl, hb⟩
  have hb1 : Below (w.heap.size + 2) W0 w1 := by rw [HW.out]; simpa using hb
  obtain ⟨q0, q1, q2, q3, q4, q5, q6, q7, p0, p1, p2, p3, p4, szs, hb2⟩ := HFA.out _ hb1
  clear hb hb1
  go_wp2_with fail
  refine wp_region_held_drew (S := fun w' => w'.cell? ⟨w.heap.size, 0, none⟩ = some (.slice A1 nf c1) ∧ w'.cell? ⟨w.heap.size, 1, none⟩ = some (.slice A2 nc c2) ∧ w'.cell? ⟨w.heap.size, 2, none⟩ = some (.slice A3 nt c3) ∧ w'.cell? ⟨w.heap.size, 3, none⟩ = some (.int .i64 params) ∧ w'.cell? ⟨w.heap.size, 4, none⟩ = some (.int .i64 regs) ∧ w'.cell? ⟨w.heap.size, 5, none⟩ = some (.bool gen) ∧ w'.cell? ⟨w.heap.size, 6, none⟩ = some (.slice A4 ng c4) ∧ w'.cell? ⟨w.heap.size, 7, none⟩ = some (.slice A5 no c5) ∧
      w'.cell? ⟨w.heap.size + 1, 0, none⟩ = some (.int .i64 op) ∧ w'.cell? ⟨w.heap.size + 1, 1, none⟩ = some (.int .i64 a) ∧ w'.cell? ⟨w.heap.size + 1, 2, none⟩ = some (.int .i64 b) ∧ w'.cell? ⟨w.heap.size + 1, 3, none⟩ = some (.int .i64 c) ∧ w'.cell? ⟨w.heap.size + 1, 4, none⟩ = some (.int .i64 line) ∧
      w.heap.size + 1 < w'.heap.size ∧ Below (w.heap.size + 2) W0 w') (by kernel_rfl) (HFA.out _ (Below.drew (by assumption))) (fun hHeld => ?_)
  try dsimp only
  refine wpAnyH_take (i := 0) (oi := ?oi0) (v := ?vv0) ?hi0 (by kernel_rfl) (by kernel_rfl) (by kernel_rfl) ?hQ0 (Or.inl ⟨?hw0, ?hy0⟩) (by assumption) ?hh0
  case hi0 => simp only [List.getElem?_toArray, List.getElem?_cons_succ, List.getElem?_cons_zero]; rfl
  case hw0 => rfl
  case hy0 => (intro w hSw; (try dsimp only at hSw); go_simp; (try with_reducible rfl))
  case hQ0 => exact fun _ _ _ h => h
  try simp only [Act.put, List.setIfInBounds_toArray, List.set_cons_zero, List.set_cons_succ]
  refine wpAnyH_take (i := 1) (oi := ?oi1) (v := ?vv1) ?hi1 (by kernel_rfl) (by kernel_rfl) (by kernel_rfl) ?hQ1 (Or.inl ⟨?hw1, ?hy1⟩) (by assumption) ?hh1
  case hi1 => simp only [List.getElem?_toArray, List.getElem?_cons_succ, List.getElem?_cons_zero]; rfl
  case hw1 => rfl
  case hy1 => (intro w hSw; (try dsimp only at hSw); go_simp; (try with_reducible rfl))
  case hQ1 => exact fun _ _ _ h => h
  try simp only [Act.put, List.setIfInBounds_toArray, List.set_cons_zero, List.set_cons_succ]
  refine wpAnyH_take (i := 2) (oi := ?oi2) (v := ?vv2) ?hi2 (by kernel_rfl) (by kernel_rfl) (by kernel_rfl) ?hQ2 (Or.inl ⟨?hw2, ?hy2⟩) (by assumption) ?hh2
  case hi2 => simp only [List.getElem?_toArray, List.getElem?_cons_succ, List.getElem?_cons_zero]; rfl
  case hw2 => rfl
  case hy2 => (intro w hSw; (try dsimp only at hSw); go_simp; (try with_reducible rfl))
  case hQ2 => exact fun _ _ _ h => h
  try simp only [Act.put, List.setIfInBounds_toArray, List.set_cons_zero, List.set_cons_succ]
  refine wpAnyH_take (i := 3) (oi := ?oi3) (v := ?vv3) ?hi3 (by kernel_rfl) (by kernel_rfl) (by kernel_rfl) ?hQ3 (Or.inl ⟨?hw3, ?hy3⟩) (by assumption) ?hh3
  case hi3 => simp only [List.getElem?_toArray, List.getElem?_cons_succ, List.getElem?_cons_zero]; rfl
  case hw3 => rfl
  case hy3 => (intro w hSw; (try dsimp only at hSw); go_simp; (try with_reducible rfl))
  case hQ3 => exact fun _ _ _ h => h
  try simp only [Act.put, List.setIfInBounds_toArray, List.set_cons_zero, List.set_cons_succ]
  refine wpAnyH_take (i := 4) (oi := ?oi4) (v := ?vv4) ?hi4 (by kernel_rfl) (by kernel_rfl) (by kernel_rfl) ?hQ4 (Or.inl ⟨?hw4, ?hy4⟩) (by assumption) ?hh4
  case hi4 => simp only [List.getElem?_toArray, List.getElem?_cons_succ, List.getElem?_cons_zero]; rfl
  case hw4 => rfl
  case hy4 => (intro w hSw; (try dsimp only at hSw); go_simp; (try with_reducible rfl))
  case hQ4 => exact fun _ _ _ h => h
  try simp only [Act.put, List.setIfInBounds_toArray, List.set_cons_zero, List.set_cons_succ]
  refine wpAnyH_ready (rs := [5]) (by kernel_rfl) (by simp) ?_
  refine AllReadyH.cons (o := ?oi5) ?hi5 (fun K hK => ?hh5) AllReadyH.nil
  case hi5 => simp only [List.getElem?_toArray, List.getElem?_cons_succ, List.getElem?_cons_zero]; rfl
  go_simp
  go_at_call 145
  refine (HL.out _).mono ?_
  rintro e w' ⟨rfl, hbb⟩
  go_wp2_with fail
  refine hK.out _ _ ?_ (fun hHeld2 => ?_)
  · (first | exact HFA.out _ (Below.drew (by assumption)) | (go_split_ands; exact HFA.out _ ((by assumption : Below (w.heap.size + 2) W0 _).trans (hbb.mono (by omega)))))
  clear hK K hHeld
  have hHeld := hHeld2
  clear hHeld2
  try simp only [Act.put, List.setIfInBounds_toArray, List.set_cons_zero, List.set_cons_succ]
  refine wpAnyH_take (i := 6) (oi := ?oi6) (v := ?vv6) ?hi6 (by kernel_rfl) (by kernel_rfl) (by kernel_rfl) ?hQ6 (Or.inl ⟨?hw6, ?hy6⟩) (by assumption) ?hh6
  case hi6 => simp only [List.getElem?_toArray, List.getElem?_cons_succ, List.getElem?_cons_zero]; rfl
  case hw6 => rfl
  case hy6 => (intro w hSw; (try dsimp only at hSw); go_simp; (try with_reducible rfl))
  case hQ6 => exact fun _ _ _ h => h
  try simp only [Act.put, List.setIfInBounds_toArray, List.set_cons_zero, List.set_cons_succ]
  refine wpAnyH_take (i := 7) (oi := ?oi7) (v := ?vv7) ?hi7 (by kernel_rfl) (by kernel_rfl) (by kernel_rfl) ?hQ7 (Or.inl ⟨?hw7, ?hy7⟩) (by assumption) ?hh7
  case hi7 => simp only [List.getElem?_toArray, List.getElem?_cons_succ, List.getElem?_cons_zero]; rfl
  case hw7 => rfl
  case hy7 => (intro w hSw; (try dsimp only at hSw); go_simp; (try with_reducible rfl))
  case hQ7 => exact fun _ _ _ h => h
  try simp only [Act.put, List.setIfInBounds_toArray, List.set_cons_zero, List.set_cons_succ]
  refine wpAnyH_take (i := 8) (oi := ?oi8) (v := ?vv8) ?hi8 (by kernel_rfl) (by kernel_rfl) (by kernel_rfl) ?hQ8 (Or.inl ⟨?hw8, ?hy8⟩) (by assumption) ?hh8
  case hi8 => simp only [List.getElem?_toArray, List.getElem?_cons_succ, List.getElem?_cons_zero]; rfl
  case hw8 => rfl
  case hy8 => (intro w hSw; (try dsimp only at hSw); go_simp; (try with_reducible rfl))
  case hQ8 => exact fun _ _ _ h => h
  try simp only [Act.put, List.setIfInBounds_toArray, List.set_cons_zero, List.set_cons_succ]
  refine wpAnyH_take (i := 9) (oi := ?oi9) (v := ?vv9) ?hi9 (by kernel_rfl) (by kernel_rfl) (by kernel_rfl) ?hQ9 (Or.inl ⟨?hw9, ?hy9⟩) (by assumption) ?hh9
  case hi9 => simp only [List.getElem?_toArray, List.getElem?_cons_succ, List.getElem?_cons_zero]; rfl
  case hw9 => rfl
  case hy9 => (intro w hSw; (try dsimp only at hSw); go_simp; (try with_reducible rfl))
  case hQ9 => exact fun _ _ _ h => h
  try simp only [Act.put, List.setIfInBounds_toArray, List.set_cons_zero, List.set_cons_succ]
  refine wpAnyH_take (i := 10) (oi := ?oi10) (v := ?vv10) ?hi10 (by kernel_rfl) (by kernel_rfl) (by kernel_rfl) ?hQ10 (Or.inl ⟨?hw10, ?hy10⟩) (by assumption) ?hh10
  case hi10 => simp only [List.getElem?_toArray, List.getElem?_cons_succ, List.getElem?_cons_zero]; rfl
  case hw10 => rfl
  case hy10 => (intro w hSw; (try dsimp only at hSw); go_simp; (try with_reducible rfl))
  case hQ10 => exact fun _ _ _ h => h
  try simp only [Act.put, List.setIfInBounds_toArray, List.set_cons_zero, List.set_cons_succ]
  refine wpAnyH_take (i := 11) (oi := ?oi11) (v := ?vv11) ?hi11 (by kernel_rfl) (by kernel_rfl) (by kernel_rfl) ?hQ11 (Or.inl ⟨?hw11, ?hy11⟩) (by assumption) ?hh11
  case hi11 => simp only [List.getElem?_toArray, List.getElem?_cons_succ, List.getElem?_cons_zero]; rfl
  case hw11 => rfl
  case hy11 => (intro w hSw; (try dsimp only at hSw); go_simp; (try with_reducible rfl))
  case hQ11 => exact fun _ _ _ h => h
  try simp only [Act.put, List.setIfInBounds_toArray, List.set_cons_zero, List.set_cons_succ]
  refine wpAnyH_take (i := 12) (oi := ?oi12) (v := ?vv12) ?hi12 (by kernel_rfl) (by kernel_rfl) (by kernel_rfl) ?hQ12 (Or.inl ⟨?hw12, ?hy12⟩) (by assumption) ?hh12
  case hi12 => simp only [List.getElem?_toArray, List.getElem?_cons_succ, List.getElem?_cons_zero]; rfl
  case hw12 => rfl
  case hy12 => (intro w hSw; (try dsimp only at hSw); go_simp; (try with_reducible rfl))
  case hQ12 => exact fun _ _ _ h => h
  try simp only [Act.put, List.setIfInBounds_toArray, List.set_cons_zero, List.set_cons_succ]
  refine wpAnyH_take (i := 13) (oi := ?oi13) (v := ?vv13) ?hi13 (by kernel_rfl) (by kernel_rfl) (by kernel_rfl) ?hQ13 (Or.inl ⟨?hw13, ?hy13⟩) (by assumption) ?hh13
  case hi13 => simp only [List.getElem?_toArray, List.getElem?_cons_succ, List.getElem?_cons_zero]; rfl
  case hw13 => rfl
  case hy13 => (intro w hSw; (try dsimp only at hSw); go_simp; (try with_reducible rfl))
  case hQ13 => exact fun _ _ _ h => h
  try simp only [Act.put, List.setIfInBounds_toArray, List.set_cons_zero, List.set_cons_succ]
  refine wpAnyH_ready (rs := [14]) (by kernel_rfl) (by simp) ?_
  refine AllReadyH.cons (o := ?oi14) ?hi14 (fun K hK => ?hh14) AllReadyH.nil
  case hi14 => simp only [List.getElem?_toArray, List.getElem?_cons_succ, List.getElem?_cons_zero]; rfl
  go_simp
  go_at_call 146
  refine (HN1.out _).mono ?_
  rintro e w' ⟨rfl, hbb⟩
  go_wp2_with fail
  refine hK.out _ _ ?_ (fun hHeld2 => ?_)
  · (first | exact HFA.out _ (Below.drew (by assumption)) | (go_split_ands; exact HFA.out _ ((by assumption : Below (w.heap.size + 2) W0 _).trans (hbb.mono (by omega)))))
  clear hK K hHeld
  have hHeld := hHeld2
  clear hHeld2
  try simp only [Act.put, List.setIfInBounds_toArray, List.set_cons_zero, List.set_cons_succ]
  refine wpAnyH_take (i := 15) (oi := ?oi15) (v := ?vv15) ?hi15 (by kernel_rfl) (by kernel_rfl) (by kernel_rfl) ?hQ15 (Or.inl ⟨?hw15, ?hy15⟩) (by assumption) ?hh15
  case hi15 => simp only [List.getElem?_toArray, List.getElem?_cons_succ, List.getElem?_cons_zero]; rfl
  case hw15 => rfl
  case hy15 => (intro w hSw; (try dsimp only at hSw); go_simp; (try with_reducible rfl))
  case hQ15 => exact fun _ _ _ h => h
  try simp only [Act.put, List.setIfInBounds_toArray, List.set_cons_zero, List.set_cons_succ]
  refine wpAnyH_take (i := 16) (oi := ?oi16) (v := ?vv16) ?hi16 (by kernel_rfl) (by kernel_rfl) (by kernel_rfl) ?hQ16 (Or.inl ⟨?hw16, ?hy16⟩) (by assumption) ?hh16
  case hi16 => simp only [List.getElem?_toArray, List.getElem?_cons_succ, List.getElem?_cons_zero]; rfl
  case hw16 => rfl
  case hy16 => (intro w hSw; (try dsimp only at hSw); go_simp; (try with_reducible rfl))
  case hQ16 => exact fun _ _ _ h => h
  try simp only [Act.put, List.setIfInBounds_toArray, List.set_cons_zero, List.set_cons_succ]
  refine wpAnyH_take (i := 17) (oi := ?oi17) (v := ?vv17) ?hi17 (by kernel_rfl) (by kernel_rfl) (by kernel_rfl) ?hQ17 (Or.inl ⟨?hw17, ?hy17⟩) (by assumption) ?hh17
  case hi17 => simp only [List.getElem?_toArray, List.getElem?_cons_succ, List.getElem?_cons_zero]; rfl
  case hw17 => rfl
  case hy17 => (intro w hSw; (try dsimp only at hSw); go_simp; (try with_reducible rfl))
  case hQ17 => exact fun _ _ _ h => h
  try simp only [Act.put, List.setIfInBounds_toArray, List.set_cons_zero, List.set_cons_succ]
  refine wpAnyH_take (i := 18) (oi := ?oi18) (v := ?vv18) ?hi18 (by kernel_rfl) (by kernel_rfl) (by kernel_rfl) ?hQ18 (Or.inl ⟨?hw18, ?hy18⟩) (by assumption) ?hh18
  case hi18 => simp only [List.getElem?_toArray, List.getElem?_cons_succ, List.getElem?_cons_zero]; rfl
  case hw18 => rfl
  case hy18 => (intro w hSw; (try dsimp only at hSw); go_simp; (try with_reducible rfl))
  case hQ18 => exact fun _ _ _ h => h
  try simp only [Act.put, List.setIfInBounds_toArray, List.set_cons_zero, List.set_cons_succ]
  refine wpAnyH_take (i := 19) (oi := ?oi19) (v := ?vv19) ?hi19 (by kernel_rfl) (by kernel_rfl) (by kernel_rfl) ?hQ19 (Or.inl ⟨?hw19, ?hy19⟩) (by assumption) ?hh19
  case hi19 => simp only [List.getElem?_toArray, List.getElem?_cons_succ, List.getElem?_cons_zero]; rfl
  case hw19 => rfl
  case hy19 => (intro w hSw; (try dsimp only at hSw); go_simp; (try with_reducible rfl))
  case hQ19 => exact fun _ _ _ h => h
  try simp only [Act.put, List.setIfInBounds_toArray, List.set_cons_zero, List.set_cons_succ]
  refine wpAnyH_take (i := 20) (oi := ?oi20) (v := ?vv20) ?hi20 (by kernel_rfl) (by kernel_rfl) (by kernel_rfl) ?hQ20 (Or.inl ⟨?hw20, ?hy20⟩) (by assumption) ?hh20
  case hi20 => simp only [List.getElem?_toArray, List.getElem?_cons_succ, List.getElem?_cons_zero]; rfl
  case hw20 => rfl
  case hy20 => (intro w hSw; (try dsimp only at hSw); go_simp; (try with_reducible rfl))
  case hQ20 => exact fun _ _ _ h => h
  try simp only [Act.put, List.setIfInBounds_toArray, List.set_cons_zero, List.set_cons_succ]
  refine wpAnyH_take (i := 21) (oi := ?oi21) (v := ?vv21) ?hi21 (by kernel_rfl) (by kernel_rfl) (by kernel_rfl) ?hQ21 (Or.inl ⟨?hw21, ?hy21⟩) (by assumption) ?hh21
  case hi21 => simp only [List.getElem?_toArray, List.getElem?_cons_succ, List.getElem?_cons_zero]; rfl
  case hw21 => rfl
  case hy21 => (intro w hSw; (try dsimp only at hSw); go_simp; (try with_reducible rfl))
  case hQ21 => exact fun _ _ _ h => h
  try simp only [Act.put, List.setIfInBounds_toArray, List.set_cons_zero, List.set_cons_succ]
  refine wpAnyH_take (i := 22) (oi := ?oi22) (v := ?vv22) ?hi22 (by kernel_rfl) (by kernel_rfl) (by kernel_rfl) ?hQ22 (Or.inl ⟨?hw22, ?hy22⟩) (by assumption) ?hh22
  case hi22 => simp only [List.getElem?_toArray, List.getElem?_cons_succ, List.getElem?_cons_zero]; rfl
  case hw22 => rfl
  case hy22 => (intro w hSw; (try dsimp only at hSw); go_simp; (try with_reducible rfl))
  case hQ22 => exact fun _ _ _ h => h
  try simp only [Act.put, List.setIfInBounds_toArray, List.set_cons_zero, List.set_cons_succ]
  refine wpAnyH_ready (rs := [23]) (by kernel_rfl) (by simp) ?_
  refine AllReadyH.cons (o := ?oi23) ?hi23 (fun K hK => ?hh23) AllReadyH.nil
  case hi23 => simp only [List.getElem?_toArray, List.getElem?_cons_succ, List.getElem?_cons_zero]; rfl
  go_simp
  go_at_call 146
  refine (HN2.out _).mono ?_
  rintro e w' ⟨rfl, hbb⟩
  go_wp2_with fail
  refine hK.out _ _ ?_ (fun hHeld2 => ?_)
  · (first | exact HFA.out _ (Below.drew (by assumption)) | (go_split_ands; exact HFA.out _ ((by assumption : Below (w.heap.size + 2) W0 _).trans (hbb.mono (by omega)))))
  clear hK K hHeld
  have hHeld := hHeld2
  clear hHeld2
  try simp only [Act.put, List.setIfInBounds_toArray, List.set_cons_zero, List.set_cons_succ]
  refine wpAnyH_take (i := 24) (oi := ?oi24) (v := ?vv24) ?hi24 (by kernel_rfl) (by kernel_rfl) (by kernel_rfl) ?hQ24 (Or.inl ⟨?hw24, ?hy24⟩) (by assumption) ?hh24
  case hi24 => simp only [List.getElem?_toArray, List.getElem?_cons_succ, List.getElem?_cons_zero]; rfl
  case hw24 => rfl
  case hy24 => (intro w hSw; (try dsimp only at hSw); go_simp; (try with_reducible rfl))
  case hQ24 => exact fun _ _ _ h => h
  try simp only [Act.put, List.setIfInBounds_toArray, List.set_cons_zero, List.set_cons_succ]
  refine wpAnyH_take (i := 25) (oi := ?oi25) (v := ?vv25) ?hi25 (by kernel_rfl) (by kernel_rfl) (by kernel_rfl) ?hQ25 (Or.inl ⟨?hw25, ?hy25⟩) (by assumption) ?hh25
  case hi25 => simp only [List.getElem?_toArray, List.getElem?_cons_succ, List.getElem?_cons_zero]; rfl
  case hw25 => rfl
  case hy25 => (intro w hSw; (try dsimp only at hSw); go_simp; (try with_reducible rfl))
  case hQ25 => exact fun _ _ _ h => h
  try simp only [Act.put, List.setIfInBounds_toArray, List.set_cons_zero, List.set_cons_succ]
  refine wpAnyH_take (i := 26) (oi := ?oi26) (v := ?vv26) ?hi26 (by kernel_rfl) (by kernel_rfl) (by kernel_rfl) ?hQ26 (Or.inl ⟨?hw26, ?hy26⟩) (by assumption) ?hh26
  case hi26 => simp only [List.getElem?_toArray, List.getElem?_cons_succ, List.getElem?_cons_zero]; rfl
  case hw26 => rfl
  case hy26 => (intro w hSw; (try dsimp only at hSw); go_simp; (try with_reducible rfl))
  case hQ26 => exact fun _ _ _ h => h
  try simp only [Act.put, List.setIfInBounds_toArray, List.set_cons_zero, List.set_cons_succ]
  refine wpAnyH_take (i := 27) (oi := ?oi27) (v := undef) ?hi27 (by kernel_rfl) (by kernel_rfl) (by kernel_rfl) ?hQ27 (Or.inr ⟨?hw27, rfl⟩) (by assumption) ?hh27
  case hi27 => simp only [List.getElem?_toArray, List.getElem?_cons_succ, List.getElem?_cons_zero]; rfl
  case hw27 => rfl
  case hQ27 => exact fun _ _ _ h => h
  try simp only [Act.put, List.setIfInBounds_toArray, List.set_cons_zero, List.set_cons_succ]
  refine wpAnyH_take (i := 28) (oi := ?oi28) (v := undef) ?hi28 (by kernel_rfl) (by kernel_rfl) (by kernel_rfl) ?hQ28 (Or.inr ⟨?hw28, rfl⟩) (by assumption) ?hh28
  case hi28 => simp only [List.getElem?_toArray, List.getElem?_cons_succ, List.getElem?_cons_zero]; rfl
  case hw28 => rfl
  case hQ28 => exact fun _ _ _ h => h
  try simp only [Act.put, List.setIfInBounds_toArray, List.set_cons_zero, List.set_cons_succ]
  refine wpAnyH_take (i := 29) (oi := ?oi29) (v := undef) ?hi29 (by kernel_rfl) (by kernel_rfl) (by kernel_rfl) ?hQ29 (Or.inr ⟨?hw29, rfl⟩) (by assumption) ?hh29
  case hi29 => simp only [List.getElem?_toArray, List.getElem?_cons_succ, List.getElem?_cons_zero]; rfl
  case hw29 => rfl
  case hQ29 => exact fun _ _ _ h => h
  try simp only [Act.put, List.setIfInBounds_toArray, List.set_cons_zero, List.set_cons_succ]
  refine wpAnyH_take (i := 30) (oi := ?oi30) (v := undef) ?hi30 (by kernel_rfl) (by kernel_rfl) (by kernel_rfl) ?hQ30 (Or.inr ⟨?hw30, rfl⟩) (by assumption) ?hh30
  case hi30 => simp only [List.getElem?_toArray, List.getElem?_cons_succ, List.getElem?_cons_zero]; rfl
  case hw30 => rfl
  case hQ30 => exact fun _ _ _ h => h
  try simp only [Act.put, List.setIfInBounds_toArray, List.set_cons_zero, List.set_cons_succ]
  refine wpAnyH_take (i := 31) (oi := ?oi31) (v := undef) ?hi31 (by kernel_rfl) (by kernel_rfl) (by kernel_rfl) ?hQ31 (Or.inr ⟨?hw31, rfl⟩) (by assumption) ?hh31
  case hi31 => simp only [List.getElem?_toArray, List.getElem?_cons_succ, List.getElem?_cons_zero]; rfl
  case hw31 => rfl
  case hQ31 => exact fun _ _ _ h => h
  try simp only [Act.put, List.setIfInBounds_toArray, List.set_cons_zero, List.set_cons_succ]
  refine wpAnyH_take (i := 32) (oi := ?oi32) (v := undef) ?hi32 (by kernel_rfl) (by kernel_rfl) (by kernel_rfl) ?hQ32 (Or.inr ⟨?hw32, rfl⟩) (by assumption) ?hh32
  case hi32 => simp only [List.getElem?_toArray, List.getElem?_cons_succ, List.getElem?_cons_zero]; rfl
  case hw32 => rfl
  case hQ32 => exact fun _ _ _ h => h
  try simp only [Act.put, List.setIfInBounds_toArray, List.set_cons_zero, List.set_cons_succ]
  refine wpAnyH_take (i := 33) (oi := ?oi33) (v := undef) ?hi33 (by kernel_rfl) (by kernel_rfl) (by kernel_rfl) ?hQ33 (Or.inr ⟨?hw33, rfl⟩) (by assumption) ?hh33
  case hi33 => simp only [List.getElem?_toArray, List.getElem?_cons_succ, List.getElem?_cons_zero]; rfl
  case hw33 => rfl
  case hQ33 => exact fun _ _ _ h => h
  try simp only [Act.put, List.setIfInBounds_toArray, List.set_cons_zero, List.set_cons_succ]
  refine wpAnyH_take (i := 34) (oi := ?oi34) (v := ?vv34) ?hi34 (by kernel_rfl) (by kernel_rfl) (by kernel_rfl) ?hQ34 (Or.inl ⟨?hw34, ?hy34⟩) (by assumption) ?hh34
  case hi34 => simp only [List.getElem?_toArray, List.getElem?_cons_succ, List.getElem?_cons_zero]; rfl
  case hw34 => rfl
  case hy34 => (intro w hSw; (try dsimp only at hSw); go_simp; (try with_reducible rfl))
  case hQ34 => exact fun _ _ _ h => h
  try simp only [Act.put, List.setIfInBounds_toArray, List.set_cons_zero, List.set_cons_succ]
  refine wpAnyH_done (by kernel_rfl) ?_ _
  go_split_ands
  go_wp2_with fail
  go_ret
  exact ⟨rfl, HB.out.trans (Below.mono (by assumption) (by omega))⟩


set_option maxRecDepth 100000 in
set_option maxHeartbeats 8000000 in
theorem order_c (l : Lk) (hl : l.Ok) (A1 A2 A3 A4 A5 : Option Addr) (c1 c2 c3 c4 c5 : Nat) (params : Int) (gen : Bool) (at_ : Int) (i : Ord) (fa fb fc : UInt8) (hf : formF i.op = some (fa, fb, fc)) (hline : withinF i.line 0 2000 = true) (hna : namesF l fa i.a = true) (hnb : namesF l fb i.b = true) (hnc : namesF l fc i.c = false) (w : World) :
    Calls Tryd.prog 121 #[.agg (lookOf l A1 A2 A3 A4 A5 c1 c2 c3 c4 c5 params gen), .int .i64 at_, .agg i.cells] w fun e w' => e = .returned (.bool false) ∧ Below w.heap.size w w' := by
  obtain ⟨op, a, b, c, line⟩ := i
  obtain ⟨nf, nc, nt, regs, ng, no⟩ := l
  have hl' := hl
  obtain ⟨k1, k2, k3, k4, k5, k6, k7⟩ := hl'
  unfold Ord.cells
  unfold lookOf
  simp only at hf hl hline hna hnb hnc k1 k2 k3 k4 k5 k6 k7 ⊢
  have hs : formS op = ⟨#[fa, fb, fc]⟩ := by simp [formS, hf]
  have HF := Lib.hid (fun w => form_any op w)
  rw [hs] at HF
  obtain ⟨la, lb, lc⟩ := form_letters hf
  have HN1 := Lib.hid (fun w' => names_any ⟨nf, nc, nt, regs, ng, no⟩ hl A1 A2 A3 A4 A5 c1 c2 c3 c4 c5 params gen fa (by rcases la with h | h | h <;> simp [Letter, h]) a w')
  have HN2 := Lib.hid (fun w' => names_any ⟨nf, nc, nt, regs, ng, no⟩ hl A1 A2 A3 A4 A5 c1 c2 c3 c4 c5 params gen fb (by rcases lb with h | h | h | h | h | h | h | h | h <;> simp [Letter, h]) b w')
  have HN3 := Lib.hid (fun w' => names_any ⟨nf, nc, nt, regs, ng, no⟩ hl A1 A2 A3 A4 A5 c1 c2 c3 c4 c5 params gen fc (by rcases lc with h | h | h | h <;> simp [Letter, h]) c w')
  simp only at HN1 HN2 HN3
  rw [hna] at HN1
  rw [hnb] at HN2
  rw [hnc] at HN3
  have HL := Lib.hid (fun w' => within_below line 0 2000 _ hline w')
  obtain ⟨W0, hW0⟩ : ∃ W0, W0 = (w.alloc (.cells (lookCells (.slice A1 nf c1) (.slice A2 nc c2) (.slice A3 nt c3) params regs gen (.slice A4 ng c4) (.slice A5 no c5)) 187)).alloc (.cells #[.int .i64 op, .int .i64 a, .int .i64 b, .int .i64 c, .int .i64 line] 189) := ⟨_, rfl⟩
  have sz0 : W0.heap.size = w.heap.size + 2 := by rw [hW0]; simp
  have B0 : Below w.heap.size w W0 := by rw [hW0]; exact ((Below.refl _ _).alloc (Nat.le_refl _) _).alloc (by simp) _
  have fa_ : ∀ w', Below (w.heap.size + 2) W0 w' → w'.cell? ⟨w.heap.size, 0, none⟩ = some (.slice A1 nf c1) ∧ w'.cell? ⟨w.heap.size, 1, none⟩ = some (.slice A2 nc c2) ∧ w'.cell? ⟨w.heap.size, 2, none⟩ = some (.slice A3 nt c3) ∧ w'.cell? ⟨w.heap.size, 3, none⟩ = some (.int .i64 params) ∧ w'.cell? ⟨w.heap.size, 4, none⟩ = some (.int .i64 regs) ∧ w'.cell? ⟨w.heap.size, 5, none⟩ = some (.bool gen) ∧ w'.cell? ⟨w.heap.size, 6, none⟩ = some (.slice A4 ng c4) ∧ w'.cell? ⟨w.heap.size, 7, none⟩ = some (.slice A5 no c5) ∧
      w'.cell? ⟨w.heap.size + 1, 0, none⟩ = some (.int .i64 op) ∧ w'.cell? ⟨w.heap.size + 1, 1, none⟩ = some (.int .i64 a) ∧ w'.cell? ⟨w.heap.size + 1, 2, none⟩ = some (.int .i64 b) ∧ w'.cell? ⟨w.heap.size + 1, 3, none⟩ = some (.int .i64 c) ∧ w'.cell? ⟨w.heap.size + 1, 4, none⟩ = some (.int .i64 line) ∧
      w.heap.size + 1 < w'.heap.size ∧ Below (w.heap.size + 2) W0 w' := fun w' h' => by
    have e : ∀ i, w'.cell? ⟨w.heap.size, i, none⟩ = W0.cell? ⟨w.heap.size, i, none⟩ := fun i => h'.cell (p := ⟨w.heap.size, i, none⟩) (by simp)
    have e' : ∀ i, w'.cell? ⟨w.heap.size + 1, i, none⟩ = W0.cell? ⟨w.heap.size + 1, i, none⟩ := fun i => h'.cell (p := ⟨w.heap.size + 1, i, none⟩) (by simp)
    refine ⟨?_, ?_, ?_, ?_, ?_, ?_, ?_, ?_, ?_, ?_, ?_, ?_, ?_, by have := h'.size; omega, h'⟩ <;> (first | rw [e, hW0] | rw [e', hW0]) <;> simp [lookCells]
  have HFA := Lib.hid fa_
  have HB := Lib.hid B0
  have HW := Lib.hid hW0
  have HS := Lib.hid sz0
  clear fa_ B0 hW0 sz0 hf hs la lb lc hl
  go_enter Tryd.func121, Tryd.ntmps121
  go_wp2_with fail
  refine (HF.out _).mono ?_
  rintro e w1 ⟨rfl, hb⟩
  have hb1 : Below (w.heap.size + 2) W0 w1 := by rw [HW.out]; simpa using hb
  obtain ⟨q0, q1, q2, q3, q4, q5, q6, q7, p0, p1, p2, p3, p4, szs, hb2⟩ := HFA.out _ hb1
  clear hb hb1
  go_wp2_with fail
  refine wp_region_held_drew (S := fun w' => w'.cell? ⟨w.heap.size, 0, none⟩ = some (.slice A1 nf c1) ∧ w'.cell? ⟨w.heap.size, 1, none⟩ = some (.slice A2 nc c2) ∧ w'.cell? ⟨w.heap.size, 2, none⟩ = some (.slice A3 nt c3) ∧ w'.cell? ⟨w.heap.size, 3, none⟩ = some (.int .i64 params) ∧ w'.cell? ⟨w.heap.size, 4, none⟩ = some (.int .i64 regs) ∧ w'.cell? ⟨w.heap.size, 5, none⟩ = some (.bool gen) ∧ w'.cell? ⟨w.heap.size, 6, none⟩ = some (.slice A4 ng c4) ∧ w'.cell? ⟨w.heap.size, 7, none⟩ = some (.slice A5 no c5) ∧
      w'.cell? ⟨w.heap.size + 1, 0, none⟩ = some (.int .i64 op) ∧ w'.cell? ⟨w.heap.size + 1, 1, none⟩ = some (.int .i64 a) ∧ w'.cell? ⟨w.heap.size + 1, 2, none⟩ = some (.int .i64 b) ∧ w'.cell? ⟨w.heap.size + 1, 3, none⟩ = some (.int .i64 c) ∧ w'.cell? ⟨w.heap.size + 1, 4, none⟩ = some (.int .i64 line) ∧
      w.heap.size + 1 < w'.heap.size ∧ Below (w.heap.size + 2) W0 w') (by kernel_rfl) (HFA.out _ (Below.drew (by assumption))) (fun hHeld => ?_)
  try dsimp only
  refine wpAnyH_take (i := 0) (oi := ?oi0) (v := ?vv0) ?hi0 (by kernel_rfl) (by kernel_rfl) (by kernel_rfl) ?hQ0 (Or.inl ⟨?hw0, ?hy0⟩) (by assumption) ?hh0
  case hi0 => simp only [List.getElem?_toArray, List.getElem?_cons_succ, List.getElem?_cons_zero]; rfl
  case hw0 => rfl
  case hy0 => (intro w hSw; (try dsimp only at hSw); go_simp; (try with_reducible rfl))
  case hQ0 => exact fun _ _ _ h => h
  try simp only [Act.put, List.setIfInBounds_toArray, List.set_cons_zero, List.set_cons_succ]
  refine wpAnyH_take (i := 1) (oi := ?oi1) (v := ?vv1) ?hi1 (by kernel_rfl) (by kernel_rfl) (by kernel_rfl) ?hQ1 (Or.inl ⟨?hw1, ?hy1⟩) (by assumption) ?hh1
  case hi1 => simp only [List.getElem?_toArray, List.getElem?_cons_succ, List.getElem?_cons_zero]; rfl
  case hw1 => rfl
  case hy1 => (intro w hSw; (try dsimp only at hSw); go_simp; (try with_reducible rfl))
  case hQ1 => exact fun _ _ _ h => h
  try simp only [Act.put, List.setIfInBounds_toArray, List.set_cons_zero, List.set_cons_succ]
  refine wpAnyH_take (i := 2) (oi := ?oi2) (v := ?vv2) ?hi2 (by kernel_rfl) (by kernel_rfl) (by kernel_rfl) ?hQ2 (Or.inl ⟨?hw2, ?hy2⟩) (by assumption) ?hh2
  case hi2 => simp only [List.getElem?_toArray, List.getElem?_cons_succ, List.getElem?_cons_zero]; rfl
  case hw2 => rfl
  case hy2 => (intro w hSw; (try dsimp only at hSw); go_simp; (try with_reducible rfl))
  case hQ2 => exact fun _ _ _ h => h
  try simp only [Act.put, List.setIfInBounds_toArray, List.set_cons_zero, List.set_cons_succ]
  refine wpAnyH_take (i := 3) (oi := ?oi3) (v := ?vv3) ?hi3 (by kernel_rfl) (by kernel_rfl) (by kernel_rfl) ?hQ3 (Or.inl ⟨?hw3, ?hy3⟩) (by assumption) ?hh3
  case hi3 => simp only [List.getElem?_toArray, List.getElem?_cons_succ, List.getElem?_cons_zero]; rfl
  case hw3 => rfl
  case hy3 => (intro w hSw; (try dsimp only at hSw); go_simp; (try with_reducible rfl))
  case hQ3 => exact fun _ _ _ h => h
  try simp only [Act.put, List.setIfInBounds_toArray, List.set_cons_zero, List.set_cons_succ]
  refine wpAnyH_take (i := 4) (oi := ?oi4) (v := ?vv4) ?hi4 (by kernel_rfl) (by kernel_rfl) (by kernel_rfl) ?hQ4 (Or.inl ⟨?hw4, ?hy4⟩) (by assumption) ?hh4
  case hi4 => simp only [List.getElem?_toArray, List.getElem?_cons_succ, List.getElem?_cons_zero]; rfl
  case hw4 => rfl
  case hy4 => (intro w hSw; (try dsimp only at hSw); go_simp; (try with_reducible rfl))
  case hQ4 => exact fun _ _ _ h => h
  try simp only [Act.put, List.setIfInBounds_toArray, List.set_cons_zero, List.set_cons_succ]
  refine wpAnyH_ready (rs := [5]) (by kernel_rfl) (by simp) ?_
  refine AllReadyH.cons (o := ?oi5) ?hi5 (fun K hK => ?hh5) AllReadyH.nil
  case hi5 => simp only [List.getElem?_toArray, List.getElem?_cons_succ, List.getElem?_cons_zero]; rfl
  go_simp
  go_at_call 145
  refine (HL.out _).mono ?_
  rintro e w' ⟨rfl, hbb⟩
  go_wp2_with fail
  refine hK.out _ _ ?_ (fun hHeld2 => ?_)
  · (first | exact HFA.out _ (Below.drew (by assumption)) | (go_split_ands; exact HFA.out _ ((by assumption : Below (w.heap.size + 2) W0 _).trans (hbb.mono (by omega)))))
  clear hK K hHeld
  have hHeld := hHeld2
  clear hHeld2
  try simp only [Act.put, List.setIfInBounds_toArray, List.set_cons_zero, List.set_cons_succ]
  refine wpAnyH_take (i := 6) (oi := ?oi6) (v := ?vv6) ?hi6 (by kernel_rfl) (by kernel_rfl) (by kernel_rfl) ?hQ6 (Or.inl ⟨?hw6, ?hy6⟩) (by assumption) ?hh6
  case hi6 => simp only [List.getElem?_toArray, List.getElem?_cons_succ, List.getElem?_cons_zero]; rfl
  case hw6 => rfl
  case hy6 => (intro w hSw; (try dsimp only at hSw); go_simp; (try with_reducible rfl))
  case hQ6 => exact fun _ _ _ h => h
  try simp only [Act.put, List.setIfInBounds_toArray, List.set_cons_zero, List.set_cons_succ]
  refine wpAnyH_take (i := 7) (oi := ?oi7) (v := ?vv7) ?hi7 (by kernel_rfl) (by kernel_rfl) (by kernel_rfl) ?hQ7 (Or.inl ⟨?hw7, ?hy7⟩) (by assumption) ?hh7
  case hi7 => simp only [List.getElem?_toArray, List.getElem?_cons_succ, List.getElem?_cons_zero]; rfl
  case hw7 => rfl
  case hy7 => (intro w hSw; (try dsimp only at hSw); go_simp; (try with_reducible rfl))
  case hQ7 => exact fun _ _ _ h => h
  try simp only [Act.put, List.setIfInBounds_toArray, List.set_cons_zero, List.set_cons_succ]
  refine wpAnyH_take (i := 8) (oi := ?oi8) (v := ?vv8) ?hi8 (by kernel_rfl) (by kernel_rfl) (by kernel_rfl) ?hQ8 (Or.inl ⟨?hw8, ?hy8⟩) (by assumption) ?hh8
  case hi8 => simp only [List.getElem?_toArray, List.getElem?_cons_succ, List.getElem?_cons_zero]; rfl
  case hw8 => rfl
  case hy8 => (intro w hSw; (try dsimp only at hSw); go_simp; (try with_reducible rfl))
  case hQ8 => exact fun _ _ _ h => h
  try simp only [Act.put, List.setIfInBounds_toArray, List.set_cons_zero, List.set_cons_succ]
  refine wpAnyH_take (i := 9) (oi := ?oi9) (v := ?vv9) ?hi9 (by kernel_rfl) (by kernel_rfl) (by kernel_rfl) ?hQ9 (Or.inl ⟨?hw9, ?hy9⟩) (by assumption) ?hh9
  case hi9 => simp only [List.getElem?_toArray, List.getElem?_cons_succ, List.getElem?_cons_zero]; rfl
  case hw9 => rfl
  case hy9 => (intro w hSw; (try dsimp only at hSw); go_simp; (try with_reducible rfl))
  case hQ9 => exact fun _ _ _ h => h
  try simp only [Act.put, List.setIfInBounds_toArray, List.set_cons_zero, List.set_cons_succ]
  refine wpAnyH_take (i := 10) (oi := ?oi10) (v := ?vv10) ?hi10 (by kernel_rfl) (by kernel_rfl) (by kernel_rfl) ?hQ10 (Or.inl ⟨?hw10, ?hy10⟩) (by assumption) ?hh10
  case hi10 => simp only [List.getElem?_toArray, List.getElem?_cons_succ, List.getElem?_cons_zero]; rfl
  case hw10 => rfl
  case hy10 => (intro w hSw; (try dsimp only at hSw); go_simp; (try with_reducible rfl))
  case hQ10 => exact fun _ _ _ h => h
  try simp only [Act.put, List.setIfInBounds_toArray, List.set_cons_zero, List.set_cons_succ]
  refine wpAnyH_take (i := 11) (oi := ?oi11) (v := ?vv11) ?hi11 (by kernel_rfl) (by kernel_rfl) (by kernel_rfl) ?hQ11 (Or.inl ⟨?hw11, ?hy11⟩) (by assumption) ?hh11
  case hi11 => simp only [List.getElem?_toArray, List.getElem?_cons_succ, List.getElem?_cons_zero]; rfl
  case hw11 => rfl
  case hy11 => (intro w hSw; (try dsimp only at hSw); go_simp; (try with_reducible rfl))
  case hQ11 => exact fun _ _ _ h => h
  try simp only [Act.put, List.setIfInBounds_toArray, List.set_cons_zero, List.set_cons_succ]
  refine wpAnyH_take (i := 12) (oi := ?oi12) (v := ?vv12) ?hi12 (by kernel_rfl) (by kernel_rfl) (by kernel_rfl) ?hQ12 (Or.inl ⟨?hw12, ?hy12⟩) (by assumption) ?hh12
  case hi12 => simp only [List.getElem?_toArray, List.getElem?_cons_succ, List.getElem?_cons_zero]; rfl
  case hw12 => rfl
  case hy12 => (intro w hSw; (try dsimp only at hSw); go_simp; (try with_reducible rfl))
  case hQ12 => exact fun _ _ _ h => h
  try simp only [Act.put, List.setIfInBounds_toArray, List.set_cons_zero, List.set_cons_succ]
  refine wpAnyH_take (i := 13) (oi := ?oi13) (v := ?vv13) ?hi13 (by kernel_rfl) (by kernel_rfl) (by kernel_rfl) ?hQ13 (Or.inl ⟨?hw13, ?hy13⟩) (by assumption) ?hh13
  case hi13 => simp only [List.getElem?_toArray, List.getElem?_cons_succ, List.getElem?_cons_zero]; rfl
  case hw13 => rfl
  case hy13 => (intro w hSw; (try dsimp only at hSw); go_simp; (try with_reducible rfl))
  case hQ13 => exact fun _ _ _ h => h
  try simp only [Act.put, List.setIfInBounds_toArray, List.set_cons_zero, List.set_cons_succ]
  refine wpAnyH_ready (rs := [14]) (by kernel_rfl) (by simp) ?_
  refine AllReadyH.cons (o := ?oi14) ?hi14 (fun K hK => ?hh14) AllReadyH.nil
  case hi14 => simp only [List.getElem?_toArray, List.getElem?_cons_succ, List.getElem?_cons_zero]; rfl
  go_simp
  go_at_call 146
  refine (HN1.out _).mono ?_
  rintro e w' ⟨rfl, hbb⟩
  go_wp2_with fail
  refine hK.out _ _ ?_ (fun hHeld2 => ?_)
  · (first | exact HFA.out _ (Below.drew (by assumption)) | (go_split_ands; exact HFA.out _ ((by assumption : Below (w.heap.size + 2) W0 _).trans (hbb.mono (by omega)))))
  clear hK K hHeld
  have hHeld := hHeld2
  clear hHeld2
  try simp only [Act.put, List.setIfInBounds_toArray, List.set_cons_zero, List.set_cons_succ]
  refine wpAnyH_take (i := 15) (oi := ?oi15) (v := ?vv15) ?hi15 (by kernel_rfl) (by kernel_rfl) (by kernel_rfl) ?hQ15 (Or.inl ⟨?hw15, ?hy15⟩) (by assumption) ?hh15
  case hi15 => simp only [List.getElem?_toArray, List.getElem?_cons_succ, List.getElem?_cons_zero]; rfl
  case hw15 => rfl
  case hy15 => (intro w hSw; (try dsimp only at hSw); go_simp; (try with_reducible rfl))
  case hQ15 => exact fun _ _ _ h => h
  try simp only [Act.put, List.setIfInBounds_toArray, List.set_cons_zero, List.set_cons_succ]
  refine wpAnyH_take (i := 16) (oi := ?oi16) (v := ?vv16) ?hi16 (by kernel_rfl) (by kernel_rfl) (by kernel_rfl) ?hQ16 (Or.inl ⟨?hw16, ?hy16⟩) (by assumption) ?hh16
  case hi16 => simp only [List.getElem?_toArray, List.getElem?_cons_succ, List.getElem?_cons_zero]; rfl
  case hw16 => rfl
  case hy16 => (intro w hSw; (try dsimp only at hSw); go_simp; (try with_reducible rfl))
  case hQ16 => exact fun _ _ _ h => h
  try simp only [Act.put, List.setIfInBounds_toArray, List.set_cons_zero, List.set_cons_succ]
  refine wpAnyH_take (i := 17) (oi := ?oi17) (v := ?vv17) ?hi17 (by kernel_rfl) (by kernel_rfl) (by kernel_rfl) ?hQ17 (Or.inl ⟨?hw17, ?hy17⟩) (by assumption) ?hh17
  case hi17 => simp only [List.getElem?_toArray, List.getElem?_cons_succ, List.getElem?_cons_zero]; rfl
  case hw17 => rfl
  case hy17 => (intro w hSw; (try dsimp only at hSw); go_simp; (try with_reducible rfl))
  case hQ17 => exact fun _ _ _ h => h
  try simp only [Act.put, List.setIfInBounds_toArray, List.set_cons_zero, List.set_cons_succ]
  refine wpAnyH_take (i := 18) (oi := ?oi18) (v := ?vv18) ?hi18 (by kernel_rfl) (by kernel_rfl) (by kernel_rfl) ?hQ18 (Or.inl ⟨?hw18, ?hy18⟩) (by assumption) ?hh18
  case hi18 => simp only [List.getElem?_toArray, List.getElem?_cons_succ, List.getElem?_cons_zero]; rfl
  case hw18 => rfl
  case hy18 => (intro w hSw; (try dsimp only at hSw); go_simp; (try with_reducible rfl))
  case hQ18 => exact fun _ _ _ h => h
  try simp only [Act.put, List.setIfInBounds_toArray, List.set_cons_zero, List.set_cons_succ]
  refine wpAnyH_take (i := 19) (oi := ?oi19) (v := ?vv19) ?hi19 (by kernel_rfl) (by kernel_rfl) (by kernel_rfl) ?hQ19 (Or.inl ⟨?hw19, ?hy19⟩) (by assumption) ?hh19
  case hi19 => simp only [List.getElem?_toArray, List.getElem?_cons_succ, List.getElem?_cons_zero]; rfl
  case hw19 => rfl
  case hy19 => (intro w hSw; (try dsimp only at hSw); go_simp; (try with_reducible rfl))
  case hQ19 => exact fun _ _ _ h => h
  try simp only [Act.put, List.setIfInBounds_toArray, List.set_cons_zero, List.set_cons_succ]
  refine wpAnyH_take (i := 20) (oi := ?oi20) (v := ?vv20) ?hi20 (by kernel_rfl) (by kernel_rfl) (by kernel_rfl) ?hQ20 (Or.inl ⟨?hw20, ?hy20⟩) (by assumption) ?hh20
  case hi20 => simp only [List.getElem?_toArray, List.getElem?_cons_succ, List.getElem?_cons_zero]; rfl
  case hw20 => rfl
  case hy20 => (intro w hSw; (try dsimp only at hSw); go_simp; (try with_reducible rfl))
  case hQ20 => exact fun _ _ _ h => h
  try simp only [Act.put, List.setIfInBounds_toArray, List.set_cons_zero, List.set_cons_succ]
  refine wpAnyH_take (i := 21) (oi := ?oi21) (v := ?vv21) ?hi21 (by kernel_rfl) (by kernel_rfl) (by kernel_rfl) ?hQ21 (Or.inl ⟨?hw21, ?hy21⟩) (by assumption) ?hh21
  case hi21 => simp only [List.getElem?_toArray, List.getElem?_cons_succ, List.getElem?_cons_zero]; rfl
  case hw21 => rfl
  case hy21 => (intro w hSw; (try dsimp only at hSw); go_simp; (try with_reducible rfl))
  case hQ21 => exact fun _ _ _ h => h
  try simp only [Act.put, List.setIfInBounds_toArray, List.set_cons_zero, List.set_cons_succ]
  refine wpAnyH_take (i := 22) (oi := ?oi22) (v := ?vv22) ?hi22 (by kernel_rfl) (by kernel_rfl) (by kernel_rfl) ?hQ22 (Or.inl ⟨?hw22, ?hy22⟩) (by assumption) ?hh22
  case hi22 => simp only [List.getElem?_toArray, List.getElem?_cons_succ, List.getElem?_cons_zero]; rfl
  case hw22 => rfl
  case hy22 => (intro w hSw; (try dsimp only at hSw); go_simp; (try with_reducible rfl))
  case hQ22 => exact fun _ _ _ h => h
  try simp only [Act.put, List.setIfInBounds_toArray, List.set_cons_zero, List.set_cons_succ]
  refine wpAnyH_ready (rs := [23]) (by kernel_rfl) (by simp) ?_
  refine AllReadyH.cons (o := ?oi23) ?hi23 (fun K hK => ?hh23) AllReadyH.nil
  case hi23 => simp only [List.getElem?_toArray, List.getElem?_cons_succ, List.getElem?_cons_zero]; rfl
  go_simp
  go_at_call 146
  refine (HN2.out _).mono ?_
  rintro e w' ⟨rfl, hbb⟩
  go_wp2_with fail
  refine hK.out _ _ ?_ (fun hHeld2 => ?_)
  · (first | exact HFA.out _ (Below.drew (by assumption)) | (go_split_ands; exact HFA.out _ ((by assumption : Below (w.heap.size + 2) W0 _).trans (hbb.mono (by omega)))))
  clear hK K hHeld
  have hHeld := hHeld2
  clear hHeld2
  try simp only [Act.put, List.setIfInBounds_toArray, List.set_cons_zero, List.set_cons_succ]
  refine wpAnyH_take (i := 24) (oi := ?oi24) (v := ?vv24) ?hi24 (by kernel_rfl) (by kernel_rfl) (by kernel_rfl) ?hQ24 (Or.inl ⟨?hw24, ?hy24⟩) (by assumption) ?hh24
  case hi24 => simp only [List.getElem?_toArray, List.getElem?_cons_succ, List.getElem?_cons_zero]; rfl
  case hw24 => rfl
  case hy24 => (intro w hSw; (try dsimp only at hSw); go_simp; (try with_reducible rfl))
  case hQ24 => exact fun _ _ _ h => h
  try simp only [Act.put, List.setIfInBounds_toArray, List.set_cons_zero, List.set_cons_succ]
  refine wpAnyH_take (i := 25) (oi := ?oi25) (v := ?vv25) ?hi25 (by kernel_rfl) (by kernel_rfl) (by kernel_rfl) ?hQ25 (Or.inl ⟨?hw25, ?hy25⟩) (by assumption) ?hh25
  case hi25 => simp only [List.getElem?_toArray, List.getElem?_cons_succ, List.getElem?_cons_zero]; rfl
  case hw25 => rfl
  case hy25 => (intro w hSw; (try dsimp only at hSw); go_simp; (try with_reducible rfl))
  case hQ25 => exact fun _ _ _ h => h
  try simp only [Act.put, List.setIfInBounds_toArray, List.set_cons_zero, List.set_cons_succ]
  refine wpAnyH_take (i := 26) (oi := ?oi26) (v := ?vv26) ?hi26 (by kernel_rfl) (by kernel_rfl) (by kernel_rfl) ?hQ26 (Or.inl ⟨?hw26, ?hy26⟩) (by assumption) ?hh26
  case hi26 => simp only [List.getElem?_toArray, List.getElem?_cons_succ, List.getElem?_cons_zero]; rfl
  case hw26 => rfl
  case hy26 => (intro w hSw; (try dsimp only at hSw); go_simp; (try with_reducible rfl))
  case hQ26 => exact fun _ _ _ h => h
  try simp only [Act.put, List.setIfInBounds_toArray, List.set_cons_zero, List.set_cons_succ]
  refine wpAnyH_take (i := 27) (oi := ?oi27) (v := ?vv27) ?hi27 (by kernel_rfl) (by kernel_rfl) (by kernel_rfl) ?hQ27 (Or.inl ⟨?hw27, ?hy27⟩) (by assumption) ?hh27
  case hi27 => simp only [List.getElem?_toArray, List.getElem?_cons_succ, List.getElem?_cons_zero]; rfl
  case hw27 => rfl
  case hy27 => (intro w hSw; (try dsimp only at hSw); go_simp; (try with_reducible rfl))
  case hQ27 => exact fun _ _ _ h => h
  try simp only [Act.put, List.setIfInBounds_toArray, List.set_cons_zero, List.set_cons_succ]
  refine wpAnyH_take (i := 28) (oi := ?oi28) (v := ?vv28) ?hi28 (by kernel_rfl) (by kernel_rfl) (by kernel_rfl) ?hQ28 (Or.inl ⟨?hw28, ?hy28⟩) (by assumption) ?hh28
  case hi28 => simp only [List.getElem?_toArray, List.getElem?_cons_succ, List.getElem?_cons_zero]; rfl
  case hw28 => rfl
  case hy28 => (intro w hSw; (try dsimp only at hSw); go_simp; (try with_reducible rfl))
  case hQ28 => exact fun _ _ _ h => h
  try simp only [Act.put, List.setIfInBounds_toArray, List.set_cons_zero, List.set_cons_succ]
  refine wpAnyH_take (i := 29) (oi := ?oi29) (v := ?vv29) ?hi29 (by kernel_rfl) (by kernel_rfl) (by kernel_rfl) ?hQ29 (Or.inl ⟨?hw29, ?hy29⟩) (by assumption) ?hh29
  case hi29 => simp only [List.getElem?_toArray, List.getElem?_cons_succ, List.getElem?_cons_zero]; rfl
  case hw29 => rfl
  case hy29 => (intro w hSw; (try dsimp only at hSw); go_simp; (try with_reducible rfl))
  case hQ29 => exact fun _ _ _ h => h
  try simp only [Act.put, List.setIfInBounds_toArray, List.set_cons_zero, List.set_cons_succ]
  refine wpAnyH_take (i := 30) (oi := ?oi30) (v := ?vv30) ?hi30 (by kernel_rfl) (by kernel_rfl) (by kernel_rfl) ?hQ30 (Or.inl ⟨?hw30, ?hy30⟩) (by assumption) ?hh30
  case hi30 => simp only [List.getElem?_toArray, List.getElem?_cons_succ, List.getElem?_cons_zero]; rfl
  case hw30 => rfl
  case hy30 => (intro w hSw; (try dsimp only at hSw); go_simp; (try with_reducible rfl))
  case hQ30 => exact fun _ _ _ h => h
  try simp only [Act.put, List.setIfInBounds_toArray, List.set_cons_zero, List.set_cons_succ]
  refine wpAnyH_take (i := 31) (oi := ?oi31) (v := ?vv31) ?hi31 (by kernel_rfl) (by kernel_rfl) (by kernel_rfl) ?hQ31 (Or.inl ⟨?hw31, ?hy31⟩) (by assumption) ?hh31
  case hi31 => simp only [List.getElem?_toArray, List.getElem?_cons_succ, List.getElem?_cons_zero]; rfl
  case hw31 => rfl
  case hy31 => (intro w hSw; (try dsimp only at hSw); go_simp; (try with_reducible rfl))
  case hQ31 => exact fun _ _ _ h => h
  try simp only [Act.put, List.setIfInBounds_toArray, List.set_cons_zero, List.set_cons_succ]
  refine wpAnyH_ready (rs := [32]) (by kernel_rfl) (by simp) ?_
  refine AllReadyH.cons (o := ?oi32) ?hi32 (fun K hK => ?hh32) AllReadyH.nil
  case hi32 => simp only [List.getElem?_toArray, List.getElem?_cons_succ, List.getElem?_cons_zero]; rfl
  go_simp
  go_at_call 146
  refine (HN3.out _).mono ?_
  rintro e w' ⟨rfl, hbb⟩
  go_wp2_with fail
  refine hK.out _ _ ?_ (fun hHeld2 => ?_)
  · (first | exact HFA.out _ (Below.drew (by assumption)) | (go_split_ands; exact HFA.out _ ((by assumption : Below (w.heap.size + 2) W0 _).trans (hbb.mono (by omega)))))
  clear hK K hHeld
  have hHeld := hHeld2
  clear hHeld2
  try simp only [Act.put, List.setIfInBounds_toArray, List.set_cons_zero, List.set_cons_succ]
  refine wpAnyH_take (i := 33) (oi := ?oi33) (v := ?vv33) ?hi33 (by kernel_rfl) (by kernel_rfl) (by kernel_rfl) ?hQ33 (Or.inl ⟨?hw33, ?hy33⟩) (by assumption) ?hh33
  case hi33 => simp only [List.getElem?_toArray, List.getElem?_cons_succ, List.getElem?_cons_zero]; rfl
  case hw33 => rfl
  case hy33 => (intro w hSw; (try dsimp only at hSw); go_simp; (try with_reducible rfl))
  case hQ33 => exact fun _ _ _ h => h
  try simp only [Act.put, List.setIfInBounds_toArray, List.set_cons_zero, List.set_cons_succ]
  refine wpAnyH_take (i := 34) (oi := ?oi34) (v := ?vv34) ?hi34 (by kernel_rfl) (by kernel_rfl) (by kernel_rfl) ?hQ34 (Or.inl ⟨?hw34, ?hy34⟩) (by assumption) ?hh34
  case hi34 => simp only [List.getElem?_toArray, List.getElem?_cons_succ, List.getElem?_cons_zero]; rfl
  case hw34 => rfl
  case hy34 => (intro w hSw; (try dsimp only at hSw); go_simp; (try with_reducible rfl))
  case hQ34 => exact fun _ _ _ h => h
  try simp only [Act.put, List.setIfInBounds_toArray, List.set_cons_zero, List.set_cons_succ]
  refine wpAnyH_done (by kernel_rfl) ?_ _
  go_split_ands
  go_wp2_with fail
  go_ret
  exact ⟨rfl, HB.out.trans (Below.mono (by assumption) (by omega))⟩

end Go.Proofs.YtefkifdhjabdiaaDoor
