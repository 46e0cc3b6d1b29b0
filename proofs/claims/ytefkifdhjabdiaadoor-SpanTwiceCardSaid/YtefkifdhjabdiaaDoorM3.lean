/- What the laws' texts lean on, part 4: lemmas and the contracts of functions. No condition. -/
import Derived.Test.YtefkifdhjabdiaaDoorM1
import Derived.Test.YtefkifdhjabdiaaDoorM2
import Derived.DeepKeys4
namespace Go.Proofs.YtefkifdhjabdiaaDoor
set_option linter.unusedVariables false
set_option linter.unusedSimpArgs false
set_option maxRecDepth 100000
def wordsC : ByteArray := ⟨#[107, 105, 110, 100, 32, 114, 97, 110, 103, 101, 32, 122, 101, 114, 111, 32, 105, 110, 100, 101, 120, 32, 108, 97, 114, 103, 101, 32, 100, 101, 101, 112, 32, 115, 116, 97, 116, 101, 32, 99, 111, 117, 110, 116, 32, 110, 105, 108, 32, 98, 111, 111, 108, 32, 105, 110, 116, 32, 102, 108, 111, 97, 116, 32, 116, 101, 120, 116, 32, 111, 98, 106, 101, 99, 116, 32, 108, 105, 115, 116, 32, 102, 117, 110, 99, 116, 105, 111, 110, 32, 103, 101, 110, 101, 114, 97, 116, 111, 114, 32, 108, 111, 99, 107, 32, 119, 101, 97, 107]⟩
def spA (s : ByteArray) (i : Nat) : Int := globL1.getD (Int.toNat (UInt8.toNat (s[i]!) : Int)) (Ty.dflt (.int .u8))
def nxN (s : ByteArray) (n was : Int) (i : Nat) : Int := n + bitsF .and .i64 was (bitsF .xor .i64 (if IntKind.signed .i64 then -1 else IntKind.max .i64) (spA s i))
def m0 (s : ByteArray) : Nat → Int → Int → Int → Nat → Option Int
 | 0, _, _, _, _ => none
 | f + 1, n, was, bits, i => if i < s.size then (if inR .i64 (nxN s n was i) then m0 s f (nxN s n was i) (spA s i) (bitsF .or .u8 bits (UInt8.toNat (s[i]!) : Int)) (i + 1) else none) else if 128 ≤ bits then none else if 0 ≤ n ∧ n ≤ 1000 then some n else none
def wF (s : ByteArray) (n : Nat) : Nat → Bool → Nat → Nat → Nat → List ByteArray → Option (List ByteArray)
 | 0, _, _, _, _, _ => none
 | f + 1, true, na, fs, i, a => if i < s.size then (if spA s i = 0 then wF s n f true na fs (i + 1) a else if fs ≤ i ∧ na < n then wF s n f false (na + 1) 0 (i + 1) (a.set na (s.extract fs i)) else none) else if fs < s.size then (if na < n then some (a.set na (s.extract fs s.size)) else none) else some a
 | f + 1, false, na, _, i, a => if i < s.size then (if spA s i = 0 then wF s n f true na i i a else wF s n f false na 0 (i + 1) a) else wF s n f true na i i a
def w1F (s : ByteArray) (n : Nat) : Nat → Nat → List ByteArray → Option (List ByteArray)
 | 0, _, _ => none
 | f + 1, i, a => if i < s.size then (if spA s i = 0 then wF s n f true 0 i i a else w1F s n f (i + 1) a) else wF s n f true 0 i i a
theorem lenL1 : globL1.length = 256 := by kernel_rfl
def fields_lv : LV := ⟨(true :: F2 (true :: true :: true :: true :: F2 (true :: true :: true :: true :: F32 (F32 (F16 (F8 (F4 (false :: [])))))))), [13, 14]⟩
noncomputable def fields_T (s : ByteArray) : Tree :=
 .stop (lp (bodyOf Tryd.f142) 0) (.c (.str s) :: J2 (.c (.int .i64 0) :: .c (.int .i64 1) :: .c (.int .u8 0) :: .c (.int .i64 0) :: J32 (J32 (J32 (J2 (.junk :: [])))))) []
theorem fields_T_ok (s : ByteArray) : aRun Tryd.prog oc0 Tryd.f142 fields_lv 3000 [.code (bodyOf Tryd.f142)] ([.c (.str s)] ++ List.replicate (Func.ntmps Tryd.f142 - 1) .junk) [] = fields_T s := by kernel_rfl
noncomputable def fields_l0_R (s : ByteArray) (n : Int) (was : Int) (bits : Int) (i : Nat) : Tree :=
 .ite (decide (((i : Nat) : Int) < (s.size : Int)))
 (.need ((0 : Int) ≤ ((i : Nat) : Int) ∧ (((i : Nat) : Int) : Int) < (s.size : Int)) <|
  .need ((0 : Int) ≤ (UInt8.toNat (s[i]!) : Int) ∧ ((UInt8.toNat (s[i]!) : Int) : Int) < ((256 : Nat) : Int) ∧ 256 ≤ globL1.length) <|
  .need ((Int.toNat (UInt8.toNat (s[i]!) : Int)) < globL1.length) <|
  .need (inR .i64 (n + (bitsF .and .i64 was (bitsF .xor .i64 (if IntKind.signed .i64 then -1 else IntKind.max .i64) (globL1.getD (Int.toNat (UInt8.toNat (s[i]!) : Int)) ((.int .u8) : Ty).dflt))))) <|
  .need (inR .i64 (((i : Nat) : Int) + 1)) <|
  .stop (lp (bodyOf Tryd.f142) 0) (.c (.str s) :: J2 (.c (.int .i64 (n + (bitsF .and .i64 was (bitsF .xor .i64 (if IntKind.signed .i64 then -1 else IntKind.max .i64) (globL1.getD (Int.toNat (UInt8.toNat (s[i]!) : Int)) ((.int .u8) : Ty).dflt))))) :: .c (.int .i64 (globL1.getD (Int.toNat (UInt8.toNat (s[i]!) : Int)) ((.int .u8) : Ty).dflt)) :: .c (.int .u8 (bitsF .or .u8 bits (UInt8.toNat (s[i]!) : Int))) :: .c (.int .i64 (((i : Nat) : Int) + 1)) :: J32 (J32 (J32 (J2 (.junk :: [])))))) [])
 (.ite (decide ((128 : Int) ≤ bits))
  (.stop (rg (bodyOf Tryd.f142) 13) (.c (.str s) :: J2 (.c (.int .i64 n) :: .c (.int .i64 was) :: .c (.int .u8 bits) :: .c (.int .i64 ((i : Nat) : Int)) :: J32 (J32 (J32 (J2 (.junk :: [])))))) [])
  (.stop (rg (bodyOf Tryd.f142) 14) (.c (.str s) :: J2 (.c (.int .i64 n) :: .c (.int .i64 was) :: .c (.int .u8 bits) :: .c (.int .i64 ((i : Nat) : Int)) :: J32 (J32 (J32 (J2 (.junk :: [])))))) []))
theorem fields_l0_R_ok (s : ByteArray) (n : Int) (was : Int) (bits : Int) (i : Nat) : aRound Tryd.prog oc0 Tryd.f142 fields_lv 3000 (lp (bodyOf Tryd.f142) 0) (.c (.str s) :: J2 (.c (.int .i64 n) :: .c (.int .i64 was) :: .c (.int .u8 bits) :: .c (.int .i64 ((i : Nat) : Int)) :: J32 (J32 (J32 (J2 (.junk :: [])))))) [] = fields_l0_R s n was bits i := by kernel_rfl
noncomputable def fields_r14_R (s : ByteArray) (N : Int) : Tree :=
 .need ((0 : Int) ≤ N ∧ (N : Int) ≤ N ∧ (N : Int) ≤ 140737488355328 ∧ (16 : Int) * N ≤ 140737488355328) <|
 .stop (lp (bodyOf Tryd.f142) 1) (.c (.str s) :: J2 (.c (.int .i64 N) :: J4 (.junk :: .c (.sl 0 1 0 (Int.toNat N)) :: .c (.int .i64 0) :: .c (.int .i64 0) :: .c (.int .i64 0) :: J32 (J32 (J16 (J8 (J4 (.junk :: [])))))))) [.vec 9 .str (List.replicate (Int.toNat N) ByteArray.empty)]
theorem fields_r14_R_ok (s : ByteArray) (N : Int) : aRound Tryd.prog oc0 Tryd.f142 fields_lv 3000 (rg (bodyOf Tryd.f142) 14) (.c (.str s) :: J2 (.c (.int .i64 N) :: J32 (J32 (J32 (J4 (J2 ([]))))))) [] = fields_r14_R s N := by kernel_rfl
noncomputable def fields_l1_R (s : ByteArray) (n : Nat) (a : List ByteArray) (i : Nat) : Tree :=
 .ite (decide (((i : Nat) : Int) < (s.size : Int)))
 (.need ((0 : Int) ≤ ((i : Nat) : Int) ∧ (((i : Nat) : Int) : Int) < (s.size : Int)) <|
  .need ((0 : Int) ≤ (UInt8.toNat (s[i]!) : Int) ∧ ((UInt8.toNat (s[i]!) : Int) : Int) < ((256 : Nat) : Int) ∧ 256 ≤ globL1.length) <|
  .need ((Int.toNat (UInt8.toNat (s[i]!) : Int)) < globL1.length) <|
  .ite ((!(decide ((globL1.getD (Int.toNat (UInt8.toNat (s[i]!) : Int)) ((.int .u8) : Ty).dflt) = 0))))
  (.need (inR .i64 (((i : Nat) : Int) + 1)) <|
  .stop (lp (bodyOf Tryd.f142) 1) (.c (.str s) :: J8 (.c (.sl 0 1 0 n) :: .c (.int .i64 0) :: .junk :: .c (.int .i64 (((i : Nat) : Int) + 1)) :: J32 (J32 (J16 (J8 (J4 (.junk :: []))))))) [.vec 9 .str a])
  (.stop (lp (bodyOf Tryd.f142) 2) (.c (.str s) :: J8 (.c (.sl 0 1 0 n) :: .c (.int .i64 0) :: .c (.int .i64 ((i : Nat) : Int)) :: .c (.int .i64 ((i : Nat) : Int)) :: J32 (J32 (J16 (J8 (J4 (.junk :: []))))))) [.vec 9 .str a]))
 (.stop (lp (bodyOf Tryd.f142) 2) (.c (.str s) :: J8 (.c (.sl 0 1 0 n) :: .c (.int .i64 0) :: .c (.int .i64 ((i : Nat) : Int)) :: .c (.int .i64 ((i : Nat) : Int)) :: J32 (J32 (J16 (J8 (J4 (.junk :: []))))))) [.vec 9 .str a])
theorem fields_l1_R_ok (s : ByteArray) (n : Nat) (a : List ByteArray) (i : Nat) : aRound Tryd.prog oc0 Tryd.f142 fields_lv 3000 (lp (bodyOf Tryd.f142) 1) (.c (.str s) :: J8 (.c (.sl 0 1 0 n) :: .c (.int .i64 0) :: .junk :: .c (.int .i64 ((i : Nat) : Int)) :: J32 (J32 (J16 (J8 (J4 (.junk :: []))))))) [.vec 9 .str a] = fields_l1_R s n a i := by kernel_rfl
noncomputable def fields_l2_R (s : ByteArray) (n : Nat) (a : List ByteArray) (na : Nat) (fs : Nat) (i : Nat) : Tree :=
 .ite (decide (((i : Nat) : Int) < (s.size : Int)))
 (.need ((0 : Int) ≤ ((i : Nat) : Int) ∧ (((i : Nat) : Int) : Int) < (s.size : Int)) <|
  .need ((0 : Int) ≤ (UInt8.toNat (s[i]!) : Int) ∧ ((UInt8.toNat (s[i]!) : Int) : Int) < ((256 : Nat) : Int) ∧ 256 ≤ globL1.length) <|
  .need ((Int.toNat (UInt8.toNat (s[i]!) : Int)) < globL1.length) <|
  .ite (decide ((globL1.getD (Int.toNat (UInt8.toNat (s[i]!) : Int)) ((.int .u8) : Ty).dflt) = 0))
  (.need (inR .i64 (((i : Nat) : Int) + 1)) <|
  .stop (lp (bodyOf Tryd.f142) 2) (.c (.str s) :: J8 (.c (.sl 0 1 0 n) :: .c (.int .i64 ((na : Nat) : Int)) :: .c (.int .i64 ((fs : Nat) : Int)) :: .c (.int .i64 (((i : Nat) : Int) + 1)) :: J32 (J32 (J16 (J8 (J4 (.junk :: []))))))) [.vec 9 .str a])
  (.need ((0 : Int) ≤ ((fs : Nat) : Int) ∧ (((fs : Nat) : Int) : Int) ≤ ((i : Nat) : Int) ∧ (((i : Nat) : Int) : Int) ≤ (s.size : Int)) <|
  .need ((0 : Int) ≤ ((na : Nat) : Int) ∧ (((na : Nat) : Int) : Int) < ((n : Nat) : Int)) <|
  .need ((0 + na) < a.length) <|
  .need (inR .i64 (((na : Nat) : Int) + 1)) <|
  .need (inR .i64 (((i : Nat) : Int) + 1)) <|
  .stop (lp (bodyOf Tryd.f142) 3) (.c (.str s) :: J8 (.c (.sl 0 1 0 n) :: .c (.int .i64 (((na : Nat) : Int) + 1)) :: .c (.int .i64 ((fs : Nat) : Int)) :: .c (.int .i64 (((i : Nat) : Int) + 1)) :: J32 (J32 (J16 (J8 (J4 (.junk :: []))))))) [.vec 9 .str (a.set (0 + na) (s.extract fs i))]))
 (.ite (decide (((fs : Nat) : Int) < (s.size : Int)))
  (.need ((0 : Int) ≤ ((fs : Nat) : Int) ∧ (((fs : Nat) : Int) : Int) ≤ (s.size : Int)) <|
  .need ((0 : Int) ≤ ((na : Nat) : Int) ∧ (((na : Nat) : Int) : Int) < ((n : Nat) : Int)) <|
  .need ((0 + na) < a.length) <|
  .ret (.c (.sl 0 1 0 n)) [.vec 9 .str (a.set (0 + na) (s.extract fs s.size))])
  (.ret (.c (.sl 0 1 0 n)) [.vec 9 .str a]))
theorem fields_l2_R_ok (s : ByteArray) (n : Nat) (a : List ByteArray) (na : Nat) (fs : Nat) (i : Nat) : aRound Tryd.prog oc0 Tryd.f142 fields_lv 3000 (lp (bodyOf Tryd.f142) 2) (.c (.str s) :: J8 (.c (.sl 0 1 0 n) :: .c (.int .i64 ((na : Nat) : Int)) :: .c (.int .i64 ((fs : Nat) : Int)) :: .c (.int .i64 ((i : Nat) : Int)) :: J32 (J32 (J16 (J8 (J4 (.junk :: []))))))) [.vec 9 .str a] = fields_l2_R s n a na fs i := by kernel_rfl
noncomputable def fields_l3_R (s : ByteArray) (n : Nat) (a : List ByteArray) (na : Nat) (i : Nat) : Tree :=
 .ite (decide (((i : Nat) : Int) < (s.size : Int)))
 (.need ((0 : Int) ≤ ((i : Nat) : Int) ∧ (((i : Nat) : Int) : Int) < (s.size : Int)) <|
  .need ((0 : Int) ≤ (UInt8.toNat (s[i]!) : Int) ∧ ((UInt8.toNat (s[i]!) : Int) : Int) < ((256 : Nat) : Int) ∧ 256 ≤ globL1.length) <|
  .need ((Int.toNat (UInt8.toNat (s[i]!) : Int)) < globL1.length) <|
  .ite ((!(decide ((globL1.getD (Int.toNat (UInt8.toNat (s[i]!) : Int)) ((.int .u8) : Ty).dflt) = 0))))
  (.need (inR .i64 (((i : Nat) : Int) + 1)) <|
  .stop (lp (bodyOf Tryd.f142) 3) (.c (.str s) :: J8 (.c (.sl 0 1 0 n) :: .c (.int .i64 ((na : Nat) : Int)) :: .junk :: .c (.int .i64 (((i : Nat) : Int) + 1)) :: J32 (J32 (J16 (J8 (J4 (.junk :: []))))))) [.vec 9 .str a])
  (.stop (lp (bodyOf Tryd.f142) 2) (.c (.str s) :: J8 (.c (.sl 0 1 0 n) :: .c (.int .i64 ((na : Nat) : Int)) :: .c (.int .i64 ((i : Nat) : Int)) :: .c (.int .i64 ((i : Nat) : Int)) :: J32 (J32 (J16 (J8 (J4 (.junk :: []))))))) [.vec 9 .str a]))
 (.stop (lp (bodyOf Tryd.f142) 2) (.c (.str s) :: J8 (.c (.sl 0 1 0 n) :: .c (.int .i64 ((na : Nat) : Int)) :: .c (.int .i64 ((i : Nat) : Int)) :: .c (.int .i64 ((i : Nat) : Int)) :: J32 (J32 (J16 (J8 (J4 (.junk :: []))))))) [.vec 9 .str a])
theorem fields_l3_R_ok (s : ByteArray) (n : Nat) (a : List ByteArray) (na : Nat) (i : Nat) : aRound Tryd.prog oc0 Tryd.f142 fields_lv 3000 (lp (bodyOf Tryd.f142) 3) (.c (.str s) :: J8 (.c (.sl 0 1 0 n) :: .c (.int .i64 ((na : Nat) : Int)) :: .junk :: .c (.int .i64 ((i : Nat) : Int)) :: J32 (J32 (J16 (J8 (J4 (.junk :: []))))))) [.vec 9 .str a] = fields_l3_R s n a na i := by kernel_rfl
theorem fields_w (s : ByteArray) (W : List ByteArray) (hs : s.size ≤ 1000) : ∀ f : Nat, (∀ (n : Nat) (a : List ByteArray) (na fs i : Nat), a.length = n → n ≤ 1000 → wF s n f true na fs i a = some W → Run Tryd.prog 142 (retQ Tryd.prog (.c (.ro .str W))) (lp (bodyOf Tryd.f142) 2) (.c (.str s) :: J8 (.c (.sl 0 1 0 n) :: .c (.int .i64 ((na : Nat) : Int)) :: .c (.int .i64 ((fs : Nat) : Int)) :: .c (.int .i64 ((i : Nat) : Int)) :: J32 (J32 (J16 (J8 (J4 (.junk :: []))))))) [.vec 9 .str a]) ∧ (∀ (n : Nat) (a : List ByteArray) (na fs i : Nat), a.length = n → n ≤ 1000 → wF s n f false na fs i a = some W → Run Tryd.prog 142 (retQ Tryd.prog (.c (.ro .str W))) (lp (bodyOf Tryd.f142) 3) (.c (.str s) :: J8 (.c (.sl 0 1 0 n) :: .c (.int .i64 ((na : Nat) : Int)) :: .junk :: .c (.int .i64 ((i : Nat) : Int)) :: J32 (J32 (J16 (J8 (J4 (.junk :: []))))))) [.vec 9 .str a]) := by
 intro f
 induction f with
 | zero => exact ⟨fun n a na fs i _ _ h => absurd h (by simp [wF]), fun n a na fs i _ _ h => absurd h (by simp [wF])⟩
 | succ f ih =>
  refine ⟨fun n a na fs i ha hn hm => ?_, fun n a na fs i ha hn hm => ?_⟩
  ·unfold wF at hm
   refine Run.roundA oc0 fields_lv 3000 Tryd.func142 mixed (fields_l2_R s n a na fs i) (fields_l2_R_ok s n a na fs i) ?_
   unfold fields_l2_R
   refine g_iteD (fun h0 => ?_) (fun h0 => ?_)
   ·refine g_need (by first | omega | (have hb := (s[i]!).toNat_lt; have hL := lenL1; first | omega | (constructor <;> omega) | (refine ⟨?_, ?_, ?_⟩ <;> omega) | (rw [i64_iff]; constructor <;> omega)) | (rw [i64_iff]; constructor <;> omega) | (have q : fs ≤ i ∧ na < n := (by rcases Decidable.em (fs ≤ i ∧ na < n) with q | q; exact q; rw [if_pos (by omega), if_neg (show ¬ spA s i = 0 from h1), if_neg q] at hm; cases hm); first | omega | (constructor <;> omega) | (refine ⟨?_, ?_, ?_⟩ <;> omega) | (rw [i64_iff]; constructor <;> omega)) | (have q : na < n := (by rcases Decidable.em (na < n) with q | q; exact q; rw [if_neg (by omega), if_pos (by omega), if_neg q] at hm; cases hm); first | omega | (constructor <;> omega) | (refine ⟨?_, ?_, ?_⟩ <;> omega) | (rw [i64_iff]; constructor <;> omega)) | (simp [ha])) ?_
    refine g_need (by first | omega | (have hb := (s[i]!).toNat_lt; have hL := lenL1; first | omega | (constructor <;> omega) | (refine ⟨?_, ?_, ?_⟩ <;> omega) | (rw [i64_iff]; constructor <;> omega)) | (rw [i64_iff]; constructor <;> omega) | (have q : fs ≤ i ∧ na < n := (by rcases Decidable.em (fs ≤ i ∧ na < n) with q | q; exact q; rw [if_pos (by omega), if_neg (show ¬ spA s i = 0 from h1), if_neg q] at hm; cases hm); first | omega | (constructor <;> omega) | (refine ⟨?_, ?_, ?_⟩ <;> omega) | (rw [i64_iff]; constructor <;> omega)) | (have q : na < n := (by rcases Decidable.em (na < n) with q | q; exact q; rw [if_neg (by omega), if_pos (by omega), if_neg q] at hm; cases hm); first | omega | (constructor <;> omega) | (refine ⟨?_, ?_, ?_⟩ <;> omega) | (rw [i64_iff]; constructor <;> omega)) | (simp [ha])) ?_
    refine g_need (by first | omega | (have hb := (s[i]!).toNat_lt; have hL := lenL1; first | omega | (constructor <;> omega) | (refine ⟨?_, ?_, ?_⟩ <;> omega) | (rw [i64_iff]; constructor <;> omega)) | (rw [i64_iff]; constructor <;> omega) | (have q : fs ≤ i ∧ na < n := (by rcases Decidable.em (fs ≤ i ∧ na < n) with q | q; exact q; rw [if_pos (by omega), if_neg (show ¬ spA s i = 0 from h1), if_neg q] at hm; cases hm); first | omega | (constructor <;> omega) | (refine ⟨?_, ?_, ?_⟩ <;> omega) | (rw [i64_iff]; constructor <;> omega)) | (have q : na < n := (by rcases Decidable.em (na < n) with q | q; exact q; rw [if_neg (by omega), if_pos (by omega), if_neg q] at hm; cases hm); first | omega | (constructor <;> omega) | (refine ⟨?_, ?_, ?_⟩ <;> omega) | (rw [i64_iff]; constructor <;> omega)) | (simp [ha])) ?_
    refine g_iteD (fun h1 => ?_) (fun h1 => ?_)
    ·refine g_need (by first | omega | (have hb := (s[i]!).toNat_lt; have hL := lenL1; first | omega | (constructor <;> omega) | (refine ⟨?_, ?_, ?_⟩ <;> omega) | (rw [i64_iff]; constructor <;> omega)) | (rw [i64_iff]; constructor <;> omega) | (have q : fs ≤ i ∧ na < n := (by rcases Decidable.em (fs ≤ i ∧ na < n) with q | q; exact q; rw [if_pos (by omega), if_neg (show ¬ spA s i = 0 from h1), if_neg q] at hm; cases hm); first | omega | (constructor <;> omega) | (refine ⟨?_, ?_, ?_⟩ <;> omega) | (rw [i64_iff]; constructor <;> omega)) | (have q : na < n := (by rcases Decidable.em (na < n) with q | q; exact q; rw [if_neg (by omega), if_pos (by omega), if_neg q] at hm; cases hm); first | omega | (constructor <;> omega) | (refine ⟨?_, ?_, ?_⟩ <;> omega) | (rw [i64_iff]; constructor <;> omega)) | (simp [ha])) ?_
     refine g_stop (RunN.keep [0] (true :: F8 (true :: true :: true :: true :: F32 (F32 (F16 (F8 (F4 (false :: []))))))) n0 (by decide) rfl rfl ?_)
     rw [if_pos (by omega), if_pos (show spA s i = 0 from h1)] at hm; exact ih.1 n a na fs (i + 1) ha hn hm
    ·refine g_need (by first | omega | (have hb := (s[i]!).toNat_lt; have hL := lenL1; first | omega | (constructor <;> omega) | (refine ⟨?_, ?_, ?_⟩ <;> omega) | (rw [i64_iff]; constructor <;> omega)) | (rw [i64_iff]; constructor <;> omega) | (have q : fs ≤ i ∧ na < n := (by rcases Decidable.em (fs ≤ i ∧ na < n) with q | q; exact q; rw [if_pos (by omega), if_neg (show ¬ spA s i = 0 from h1), if_neg q] at hm; cases hm); first | omega | (constructor <;> omega) | (refine ⟨?_, ?_, ?_⟩ <;> omega) | (rw [i64_iff]; constructor <;> omega)) | (have q : na < n := (by rcases Decidable.em (na < n) with q | q; exact q; rw [if_neg (by omega), if_pos (by omega), if_neg q] at hm; cases hm); first | omega | (constructor <;> omega) | (refine ⟨?_, ?_, ?_⟩ <;> omega) | (rw [i64_iff]; constructor <;> omega)) | (simp [ha])) ?_
     refine g_need (by first | omega | (have hb := (s[i]!).toNat_lt; have hL := lenL1; first | omega | (constructor <;> omega) | (refine ⟨?_, ?_, ?_⟩ <;> omega) | (rw [i64_iff]; constructor <;> omega)) | (rw [i64_iff]; constructor <;> omega) | (have q : fs ≤ i ∧ na < n := (by rcases Decidable.em (fs ≤ i ∧ na < n) with q | q; exact q; rw [if_pos (by omega), if_neg (show ¬ spA s i = 0 from h1), if_neg q] at hm; cases hm); first | omega | (constructor <;> omega) | (refine ⟨?_, ?_, ?_⟩ <;> omega) | (rw [i64_iff]; constructor <;> omega)) | (have q : na < n := (by rcases Decidable.em (na < n) with q | q; exact q; rw [if_neg (by omega), if_pos (by omega), if_neg q] at hm; cases hm); first | omega | (constructor <;> omega) | (refine ⟨?_, ?_, ?_⟩ <;> omega) | (rw [i64_iff]; constructor <;> omega)) | (simp [ha])) ?_
     refine g_need (by first | omega | (have hb := (s[i]!).toNat_lt; have hL := lenL1; first | omega | (constructor <;> omega) | (refine ⟨?_, ?_, ?_⟩ <;> omega) | (rw [i64_iff]; constructor <;> omega)) | (rw [i64_iff]; constructor <;> omega) | (have q : fs ≤ i ∧ na < n := (by rcases Decidable.em (fs ≤ i ∧ na < n) with q | q; exact q; rw [if_pos (by omega), if_neg (show ¬ spA s i = 0 from h1), if_neg q] at hm; cases hm); first | omega | (constructor <;> omega) | (refine ⟨?_, ?_, ?_⟩ <;> omega) | (rw [i64_iff]; constructor <;> omega)) | (have q : na < n := (by rcases Decidable.em (na < n) with q | q; exact q; rw [if_neg (by omega), if_pos (by omega), if_neg q] at hm; cases hm); first | omega | (constructor <;> omega) | (refine ⟨?_, ?_, ?_⟩ <;> omega) | (rw [i64_iff]; constructor <;> omega)) | (simp [ha])) ?_
     refine g_need (by first | omega | (have hb := (s[i]!).toNat_lt; have hL := lenL1; first | omega | (constructor <;> omega) | (refine ⟨?_, ?_, ?_⟩ <;> omega) | (rw [i64_iff]; constructor <;> omega)) | (rw [i64_iff]; constructor <;> omega) | (have q : fs ≤ i ∧ na < n := (by rcases Decidable.em (fs ≤ i ∧ na < n) with q | q; exact q; rw [if_pos (by omega), if_neg (show ¬ spA s i = 0 from h1), if_neg q] at hm; cases hm); first | omega | (constructor <;> omega) | (refine ⟨?_, ?_, ?_⟩ <;> omega) | (rw [i64_iff]; constructor <;> omega)) | (have q : na < n := (by rcases Decidable.em (na < n) with q | q; exact q; rw [if_neg (by omega), if_pos (by omega), if_neg q] at hm; cases hm); first | omega | (constructor <;> omega) | (refine ⟨?_, ?_, ?_⟩ <;> omega) | (rw [i64_iff]; constructor <;> omega)) | (simp [ha])) ?_
     refine g_need (by first | omega | (have hb := (s[i]!).toNat_lt; have hL := lenL1; first | omega | (constructor <;> omega) | (refine ⟨?_, ?_, ?_⟩ <;> omega) | (rw [i64_iff]; constructor <;> omega)) | (rw [i64_iff]; constructor <;> omega) | (have q : fs ≤ i ∧ na < n := (by rcases Decidable.em (fs ≤ i ∧ na < n) with q | q; exact q; rw [if_pos (by omega), if_neg (show ¬ spA s i = 0 from h1), if_neg q] at hm; cases hm); first | omega | (constructor <;> omega) | (refine ⟨?_, ?_, ?_⟩ <;> omega) | (rw [i64_iff]; constructor <;> omega)) | (have q : na < n := (by rcases Decidable.em (na < n) with q | q; exact q; rw [if_neg (by omega), if_pos (by omega), if_neg q] at hm; cases hm); first | omega | (constructor <;> omega) | (refine ⟨?_, ?_, ?_⟩ <;> omega) | (rw [i64_iff]; constructor <;> omega)) | (simp [ha])) ?_
     refine g_stop (RunN.keep [0] (true :: F8 (true :: true :: false :: true :: F32 (F32 (F16 (F8 (F4 (false :: []))))))) n0 (by decide) rfl rfl ?_)
     have q : fs ≤ i ∧ na < n := (by rcases Decidable.em (fs ≤ i ∧ na < n) with q | q; exact q; rw [if_pos (by omega), if_neg (show ¬ spA s i = 0 from h1), if_neg q] at hm; cases hm); rw [if_pos (by omega), if_neg (show ¬ spA s i = 0 from h1), if_pos q] at hm; rw [Nat.zero_add]; exact ih.2 n (a.set na (s.extract fs i)) (na + 1) 0 (i + 1) (by simpa using ha) hn hm
   ·refine g_iteD (fun h1 => ?_) (fun h1 => ?_)
    ·refine g_need (by first | omega | (have hb := (s[i]!).toNat_lt; have hL := lenL1; first | omega | (constructor <;> omega) | (refine ⟨?_, ?_, ?_⟩ <;> omega) | (rw [i64_iff]; constructor <;> omega)) | (rw [i64_iff]; constructor <;> omega) | (have q : fs ≤ i ∧ na < n := (by rcases Decidable.em (fs ≤ i ∧ na < n) with q | q; exact q; rw [if_pos (by omega), if_neg (show ¬ spA s i = 0 from h1), if_neg q] at hm; cases hm); first | omega | (constructor <;> omega) | (refine ⟨?_, ?_, ?_⟩ <;> omega) | (rw [i64_iff]; constructor <;> omega)) | (have q : na < n := (by rcases Decidable.em (na < n) with q | q; exact q; rw [if_neg (by omega), if_pos (by omega), if_neg q] at hm; cases hm); first | omega | (constructor <;> omega) | (refine ⟨?_, ?_, ?_⟩ <;> omega) | (rw [i64_iff]; constructor <;> omega)) | (simp [ha])) ?_
     refine g_need (by first | omega | (have hb := (s[i]!).toNat_lt; have hL := lenL1; first | omega | (constructor <;> omega) | (refine ⟨?_, ?_, ?_⟩ <;> omega) | (rw [i64_iff]; constructor <;> omega)) | (rw [i64_iff]; constructor <;> omega) | (have q : fs ≤ i ∧ na < n := (by rcases Decidable.em (fs ≤ i ∧ na < n) with q | q; exact q; rw [if_pos (by omega), if_neg (show ¬ spA s i = 0 from h1), if_neg q] at hm; cases hm); first | omega | (constructor <;> omega) | (refine ⟨?_, ?_, ?_⟩ <;> omega) | (rw [i64_iff]; constructor <;> omega)) | (have q : na < n := (by rcases Decidable.em (na < n) with q | q; exact q; rw [if_neg (by omega), if_pos (by omega), if_neg q] at hm; cases hm); first | omega | (constructor <;> omega) | (refine ⟨?_, ?_, ?_⟩ <;> omega) | (rw [i64_iff]; constructor <;> omega)) | (simp [ha])) ?_
     refine g_need (by first | omega | (have hb := (s[i]!).toNat_lt; have hL := lenL1; first | omega | (constructor <;> omega) | (refine ⟨?_, ?_, ?_⟩ <;> omega) | (rw [i64_iff]; constructor <;> omega)) | (rw [i64_iff]; constructor <;> omega) | (have q : fs ≤ i ∧ na < n := (by rcases Decidable.em (fs ≤ i ∧ na < n) with q | q; exact q; rw [if_pos (by omega), if_neg (show ¬ spA s i = 0 from h1), if_neg q] at hm; cases hm); first | omega | (constructor <;> omega) | (refine ⟨?_, ?_, ?_⟩ <;> omega) | (rw [i64_iff]; constructor <;> omega)) | (have q : na < n := (by rcases Decidable.em (na < n) with q | q; exact q; rw [if_neg (by omega), if_pos (by omega), if_neg q] at hm; cases hm); first | omega | (constructor <;> omega) | (refine ⟨?_, ?_, ?_⟩ <;> omega) | (rw [i64_iff]; constructor <;> omega)) | (simp [ha])) ?_
     exact g_rs rfl (by first | omega | (have hb := (s[i]!).toNat_lt; have hL := lenL1; first | omega | (constructor <;> omega) | (refine ⟨?_, ?_, ?_⟩ <;> omega) | (rw [i64_iff]; constructor <;> omega)) | (rw [i64_iff]; constructor <;> omega) | (have q : fs ≤ i ∧ na < n := (by rcases Decidable.em (fs ≤ i ∧ na < n) with q | q; exact q; rw [if_pos (by omega), if_neg (show ¬ spA s i = 0 from h1), if_neg q] at hm; cases hm); first | omega | (constructor <;> omega) | (refine ⟨?_, ?_, ?_⟩ <;> omega) | (rw [i64_iff]; constructor <;> omega)) | (have q : na < n := (by rcases Decidable.em (na < n) with q | q; exact q; rw [if_neg (by omega), if_pos (by omega), if_neg q] at hm; cases hm); first | omega | (constructor <;> omega) | (refine ⟨?_, ?_, ?_⟩ <;> omega) | (rw [i64_iff]; constructor <;> omega)) | (simp [ha])) (by (try rw [Nat.zero_add]); first | (have q : na < n := (by rcases Decidable.em (na < n) with q | q; exact q; rw [if_neg (by omega), if_pos (by omega), if_neg q] at hm; cases hm); rw [if_neg (by omega), if_pos (by omega), if_pos q] at hm; injection hm) | (rw [if_neg (by omega), if_neg (by omega)] at hm; injection hm))
    ·exact g_rs rfl (by first | omega | (have hb := (s[i]!).toNat_lt; have hL := lenL1; first | omega | (constructor <;> omega) | (refine ⟨?_, ?_, ?_⟩ <;> omega) | (rw [i64_iff]; constructor <;> omega)) | (rw [i64_iff]; constructor <;> omega) | (have q : fs ≤ i ∧ na < n := (by rcases Decidable.em (fs ≤ i ∧ na < n) with q | q; exact q; rw [if_pos (by omega), if_neg (show ¬ spA s i = 0 from h1), if_neg q] at hm; cases hm); first | omega | (constructor <;> omega) | (refine ⟨?_, ?_, ?_⟩ <;> omega) | (rw [i64_iff]; constructor <;> omega)) | (have q : na < n := (by rcases Decidable.em (na < n) with q | q; exact q; rw [if_neg (by omega), if_pos (by omega), if_neg q] at hm; cases hm); first | omega | (constructor <;> omega) | (refine ⟨?_, ?_, ?_⟩ <;> omega) | (rw [i64_iff]; constructor <;> omega)) | (simp [ha])) (by (try rw [Nat.zero_add]); first | (have q : na < n := (by rcases Decidable.em (na < n) with q | q; exact q; rw [if_neg (by omega), if_pos (by omega), if_neg q] at hm; cases hm); rw [if_neg (by omega), if_pos (by omega), if_pos q] at hm; injection hm) | (rw [if_neg (by omega), if_neg (by omega)] at hm; injection hm))
  ·unfold wF at hm
   refine Run.roundA oc0 fields_lv 3000 Tryd.func142 mixed (fields_l3_R s n a na i) (fields_l3_R_ok s n a na i) ?_
   unfold fields_l3_R
   refine g_iteD (fun h0 => ?_) (fun h0 => ?_)
   ·refine g_need (by first | omega | (have hb := (s[i]!).toNat_lt; have hL := lenL1; first | omega | (constructor <;> omega) | (refine ⟨?_, ?_, ?_⟩ <;> omega) | (rw [i64_iff]; constructor <;> omega)) | (rw [i64_iff]; constructor <;> omega) | (have q : fs ≤ i ∧ na < n := (by rcases Decidable.em (fs ≤ i ∧ na < n) with q | q; exact q; rw [if_pos (by omega), if_neg (show ¬ spA s i = 0 from h1), if_neg q] at hm; cases hm); first | omega | (constructor <;> omega) | (refine ⟨?_, ?_, ?_⟩ <;> omega) | (rw [i64_iff]; constructor <;> omega)) | (have q : na < n := (by rcases Decidable.em (na < n) with q | q; exact q; rw [if_neg (by omega), if_pos (by omega), if_neg q] at hm; cases hm); first | omega | (constructor <;> omega) | (refine ⟨?_, ?_, ?_⟩ <;> omega) | (rw [i64_iff]; constructor <;> omega)) | (simp [ha])) ?_
    refine g_need (by first | omega | (have hb := (s[i]!).toNat_lt; have hL := lenL1; first | omega | (constructor <;> omega) | (refine ⟨?_, ?_, ?_⟩ <;> omega) | (rw [i64_iff]; constructor <;> omega)) | (rw [i64_iff]; constructor <;> omega) | (have q : fs ≤ i ∧ na < n := (by rcases Decidable.em (fs ≤ i ∧ na < n) with q | q; exact q; rw [if_pos (by omega), if_neg (show ¬ spA s i = 0 from h1), if_neg q] at hm; cases hm); first | omega | (constructor <;> omega) | (refine ⟨?_, ?_, ?_⟩ <;> omega) | (rw [i64_iff]; constructor <;> omega)) | (have q : na < n := (by rcases Decidable.em (na < n) with q | q; exact q; rw [if_neg (by omega), if_pos (by omega), if_neg q] at hm; cases hm); first | omega | (constructor <;> omega) | (refine ⟨?_, ?_, ?_⟩ <;> omega) | (rw [i64_iff]; constructor <;> omega)) | (simp [ha])) ?_
    refine g_need (by first | omega | (have hb := (s[i]!).toNat_lt; have hL := lenL1; first | omega | (constructor <;> omega) | (refine ⟨?_, ?_, ?_⟩ <;> omega) | (rw [i64_iff]; constructor <;> omega)) | (rw [i64_iff]; constructor <;> omega) | (have q : fs ≤ i ∧ na < n := (by rcases Decidable.em (fs ≤ i ∧ na < n) with q | q; exact q; rw [if_pos (by omega), if_neg (show ¬ spA s i = 0 from h1), if_neg q] at hm; cases hm); first | omega | (constructor <;> omega) | (refine ⟨?_, ?_, ?_⟩ <;> omega) | (rw [i64_iff]; constructor <;> omega)) | (have q : na < n := (by rcases Decidable.em (na < n) with q | q; exact q; rw [if_neg (by omega), if_pos (by omega), if_neg q] at hm; cases hm); first | omega | (constructor <;> omega) | (refine ⟨?_, ?_, ?_⟩ <;> omega) | (rw [i64_iff]; constructor <;> omega)) | (simp [ha])) ?_
    refine g_iteND (fun h1 => ?_) (fun h1 => ?_)
    ·refine g_need (by first | omega | (have hb := (s[i]!).toNat_lt; have hL := lenL1; first | omega | (constructor <;> omega) | (refine ⟨?_, ?_, ?_⟩ <;> omega) | (rw [i64_iff]; constructor <;> omega)) | (rw [i64_iff]; constructor <;> omega) | (have q : fs ≤ i ∧ na < n := (by rcases Decidable.em (fs ≤ i ∧ na < n) with q | q; exact q; rw [if_pos (by omega), if_neg (show ¬ spA s i = 0 from h1), if_neg q] at hm; cases hm); first | omega | (constructor <;> omega) | (refine ⟨?_, ?_, ?_⟩ <;> omega) | (rw [i64_iff]; constructor <;> omega)) | (have q : na < n := (by rcases Decidable.em (na < n) with q | q; exact q; rw [if_neg (by omega), if_pos (by omega), if_neg q] at hm; cases hm); first | omega | (constructor <;> omega) | (refine ⟨?_, ?_, ?_⟩ <;> omega) | (rw [i64_iff]; constructor <;> omega)) | (simp [ha])) ?_
     refine g_stop (RunN.keep [0] (true :: F8 (true :: true :: false :: true :: F32 (F32 (F16 (F8 (F4 (false :: []))))))) n0 (by decide) rfl rfl ?_)
     rw [if_pos (by omega), if_neg (show ¬ spA s i = 0 from h1)] at hm; exact ih.2 n a na 0 (i + 1) ha hn hm
    ·refine g_stop (RunN.keep [0] (true :: F8 (true :: true :: true :: true :: F32 (F32 (F16 (F8 (F4 (false :: []))))))) n0 (by decide) rfl rfl ?_)
     first | (rw [if_neg (by omega)] at hm; exact ih.1 n a na i i ha hn hm) | (rw [if_pos (by omega), if_pos (show spA s i = 0 from h1)] at hm; exact ih.1 n a na i i ha hn hm)
   ·refine g_stop (RunN.keep [0] (true :: F8 (true :: true :: true :: true :: F32 (F32 (F16 (F8 (F4 (false :: []))))))) n0 (by decide) rfl rfl ?_)
    first | (rw [if_neg (by omega)] at hm; exact ih.1 n a na i i ha hn hm) | (rw [if_pos (by omega), if_pos (show spA s i = 0 from h1)] at hm; exact ih.1 n a na i i ha hn hm)
theorem fields_w1 (s : ByteArray) (W : List ByteArray) (hs : s.size ≤ 1000) : ∀ (f : Nat) (n : Nat) (a : List ByteArray) (i : Nat), a.length = n → n ≤ 1000 → w1F s n f i a = some W → Run Tryd.prog 142 (retQ Tryd.prog (.c (.ro .str W))) (lp (bodyOf Tryd.f142) 1) (.c (.str s) :: J8 (.c (.sl 0 1 0 n) :: .c (.int .i64 0) :: .junk :: .c (.int .i64 ((i : Nat) : Int)) :: J32 (J32 (J16 (J8 (J4 (.junk :: []))))))) [.vec 9 .str a] := by
 intro f
 induction f with
 | zero => exact fun n a i _ _ h => absurd h (by simp [w1F])
 | succ f ih =>
  intro n a i ha hn hm
  unfold w1F at hm
  refine Run.roundA oc0 fields_lv 3000 Tryd.func142 mixed (fields_l1_R s n a i) (fields_l1_R_ok s n a i) ?_
  unfold fields_l1_R
  refine g_iteD (fun h0 => ?_) (fun h0 => ?_)
  ·refine g_need (by first | omega | (have hb := (s[i]!).toNat_lt; have hL := lenL1; first | omega | (constructor <;> omega) | (refine ⟨?_, ?_, ?_⟩ <;> omega) | (rw [i64_iff]; constructor <;> omega)) | (rw [i64_iff]; constructor <;> omega)) ?_
   refine g_need (by first | omega | (have hb := (s[i]!).toNat_lt; have hL := lenL1; first | omega | (constructor <;> omega) | (refine ⟨?_, ?_, ?_⟩ <;> omega) | (rw [i64_iff]; constructor <;> omega)) | (rw [i64_iff]; constructor <;> omega)) ?_
   refine g_need (by first | omega | (have hb := (s[i]!).toNat_lt; have hL := lenL1; first | omega | (constructor <;> omega) | (refine ⟨?_, ?_, ?_⟩ <;> omega) | (rw [i64_iff]; constructor <;> omega)) | (rw [i64_iff]; constructor <;> omega)) ?_
   refine g_iteND (fun h1 => ?_) (fun h1 => ?_)
   ·refine g_need (by first | omega | (have hb := (s[i]!).toNat_lt; have hL := lenL1; first | omega | (constructor <;> omega) | (refine ⟨?_, ?_, ?_⟩ <;> omega) | (rw [i64_iff]; constructor <;> omega)) | (rw [i64_iff]; constructor <;> omega)) ?_
    refine g_stop (RunN.keep [0] (true :: F8 (true :: true :: false :: true :: F32 (F32 (F16 (F8 (F4 (false :: []))))))) n0 (by decide) rfl rfl ?_)
    rw [if_pos (by omega), if_neg (show ¬ spA s i = 0 from h1)] at hm; exact ih n a (i + 1) ha hn hm
   ·refine g_stop (RunN.keep [0] (true :: F8 (true :: true :: true :: true :: F32 (F32 (F16 (F8 (F4 (false :: []))))))) n0 (by decide) rfl rfl ?_)
    first | (rw [if_neg (by omega)] at hm; exact (fields_w s W hs f).1 n a 0 i i ha hn hm) | (rw [if_pos (by omega), if_pos (show spA s i = 0 from h1)] at hm; exact (fields_w s W hs f).1 n a 0 i i ha hn hm)
  ·refine g_stop (RunN.keep [0] (true :: F8 (true :: true :: true :: true :: F32 (F32 (F16 (F8 (F4 (false :: []))))))) n0 (by decide) rfl rfl ?_)
   first | (rw [if_neg (by omega)] at hm; exact (fields_w s W hs f).1 n a 0 i i ha hn hm) | (rw [if_pos (by omega), if_pos (show spA s i = 0 from h1)] at hm; exact (fields_w s W hs f).1 n a 0 i i ha hn hm)
theorem fields_14 (s : ByteArray) (N : Int) (W : List ByteArray) (f : Nat) (hs : s.size ≤ 1000) (hN : 0 ≤ N ∧ N ≤ 1000) (hm : w1F s N.toNat f 0 (List.replicate N.toNat ByteArray.empty) = some W) : Run Tryd.prog 142 (retQ Tryd.prog (.c (.ro .str W))) (rg (bodyOf Tryd.f142) 14) (.c (.str s) :: J2 (.c (.int .i64 N) :: J32 (J32 (J32 (J4 (J2 ([]))))))) [] := by
 refine Run.roundA oc0 fields_lv 3000 Tryd.func142 mixed (fields_r14_R s N) (fields_r14_R_ok s N) ?_
 unfold fields_r14_R
 refine g_need (by refine ⟨by omega, by omega, by omega, by omega⟩) ?_
 refine g_stop (RunN.keep [0] (true :: F8 (true :: true :: false :: true :: F32 (F32 (F16 (F8 (F4 (false :: []))))))) n0 (by decide) rfl rfl ?_)
 exact fields_w1 s W hs f N.toNat _ 0 (by simp) (by omega) hm
theorem fields_m (s : ByteArray) (N : Int) (W : List ByteArray) (hs : s.size ≤ 1000) (h14 : Run Tryd.prog 142 (retQ Tryd.prog (.c (.ro .str W))) (rg (bodyOf Tryd.f142) 14) (.c (.str s) :: J2 (.c (.int .i64 N) :: J32 (J32 (J32 (J4 (J2 ([]))))))) []) : ∀ (f : Nat) (n was bits : Int) (i : Nat), m0 s f n was bits i = some N → Run Tryd.prog 142 (retQ Tryd.prog (.c (.ro .str W))) (lp (bodyOf Tryd.f142) 0) (.c (.str s) :: J2 (.c (.int .i64 n) :: .c (.int .i64 was) :: .c (.int .u8 bits) :: .c (.int .i64 ((i : Nat) : Int)) :: J32 (J32 (J32 (J2 (.junk :: [])))))) [] := by
 intro f
 induction f with
 | zero => exact fun n was bits i h => absurd h (by simp [m0])
 | succ f ih =>
  intro n was bits i hm
  unfold m0 at hm
  refine Run.roundA oc0 fields_lv 3000 Tryd.func142 mixed (fields_l0_R s n was bits i) (fields_l0_R_ok s n was bits i) ?_
  unfold fields_l0_R
  refine g_iteD (fun h0 => ?_) (fun h0 => ?_)
  ·refine g_need (by first | omega | (have hb := (s[i]!).toNat_lt; have hL := lenL1; first | omega | (constructor <;> omega) | (refine ⟨?_, ?_, ?_⟩ <;> omega) | (rw [i64_iff]; constructor <;> omega)) | (rw [i64_iff]; constructor <;> omega) | (rw [if_pos (by omega)] at hm; split at hm; assumption; cases hm)) ?_
   refine g_need (by first | omega | (have hb := (s[i]!).toNat_lt; have hL := lenL1; first | omega | (constructor <;> omega) | (refine ⟨?_, ?_, ?_⟩ <;> omega) | (rw [i64_iff]; constructor <;> omega)) | (rw [i64_iff]; constructor <;> omega) | (rw [if_pos (by omega)] at hm; split at hm; assumption; cases hm)) ?_
   refine g_need (by first | omega | (have hb := (s[i]!).toNat_lt; have hL := lenL1; first | omega | (constructor <;> omega) | (refine ⟨?_, ?_, ?_⟩ <;> omega) | (rw [i64_iff]; constructor <;> omega)) | (rw [i64_iff]; constructor <;> omega) | (rw [if_pos (by omega)] at hm; split at hm; assumption; cases hm)) ?_
   refine g_need (by first | omega | (have hb := (s[i]!).toNat_lt; have hL := lenL1; first | omega | (constructor <;> omega) | (refine ⟨?_, ?_, ?_⟩ <;> omega) | (rw [i64_iff]; constructor <;> omega)) | (rw [i64_iff]; constructor <;> omega) | (rw [if_pos (by omega)] at hm; split at hm; assumption; cases hm)) ?_
   refine g_need (by first | omega | (have hb := (s[i]!).toNat_lt; have hL := lenL1; first | omega | (constructor <;> omega) | (refine ⟨?_, ?_, ?_⟩ <;> omega) | (rw [i64_iff]; constructor <;> omega)) | (rw [i64_iff]; constructor <;> omega) | (rw [if_pos (by omega)] at hm; split at hm; assumption; cases hm)) ?_
   refine g_stop (RunN.keep [] (true :: F2 (true :: true :: true :: true :: F32 (F32 (F32 (F2 (false :: [])))))) n0 (by decide) rfl rfl ?_)
   rw [if_pos (by omega)] at hm; split at hm; exact ih _ _ _ _ hm; cases hm
  ·refine g_iteD (fun h1 => ?_) (fun h1 => ?_)
   ·refine g_stop (RunN.keep [] (true :: F32 (F32 (F32 (F8 (false :: []))))) n0 (by decide) rfl rfl ?_)
    exfalso; rw [if_neg (by omega), if_pos (by assumption)] at hm; cases hm
   ·refine g_stop (RunN.keep [] (true :: F2 (true :: F32 (F32 (F32 (F4 (F2 ([]))))))) n0 (by decide) rfl rfl ?_)
    rw [if_neg (by omega), if_neg (by assumption)] at hm; split at hm; injection hm with hm; subst hm; exact h14; cases hm
theorem fields_fun (s : ByteArray) (N : Int) (W : List ByteArray) (f1 f2 : Nat) (hs : s.size ≤ 1000) (hN : 0 ≤ N ∧ N ≤ 1000) (hm : m0 s f1 0 1 0 0 = some N) (hw : w1F s N.toNat f2 0 (List.replicate N.toNat ByteArray.empty) = some W) : AFun Tryd.prog 142 [.c (.str s)] (.c (.ro .str (W))) :=
 AFun.of oc0 fields_lv 3000 Tryd.func142 mixed rfl (by decide) (Nat.le_of_ble_eq_true rfl) _ (fields_T_ok s) fun hF => by
  unfold fields_T
  refine g_stop (RunN.keep [] (true :: F2 (true :: true :: true :: true :: F32 (F32 (F32 (F2 (false :: [])))))) n0 (by decide) rfl rfl ?_)
  exact fields_m s N W hs (fields_14 s N W f2 hs hN hw) f1 0 1 0 0 hm

end Go.Proofs.YtefkifdhjabdiaaDoor
namespace Go.Proofs.YtefkifdhjabdiaaDoor
set_option linter.unusedVariables false
set_option linter.unusedSimpArgs false
set_option maxRecDepth 100000
theorem words_m : m0 wordsC 300 0 1 0 0 = some 19 := by kernel_rfl
noncomputable def wordsL : List ByteArray := (w1F wordsC 19 300 0 (List.replicate 19 ByteArray.empty)).getD []
theorem words_some : (w1F wordsC 19 300 0 (List.replicate 19 ByteArray.empty)).isSome = true := by kernel_rfl
theorem words_w : w1F wordsC (Int.toNat 19) 300 0 (List.replicate (Int.toNat 19) ByteArray.empty) = some wordsL := by
 show w1F wordsC 19 300 0 (List.replicate 19 ByteArray.empty) = some wordsL
 unfold wordsL
 have h := words_some
 cases hq : w1F wordsC 19 300 0 (List.replicate 19 ByteArray.empty) with
 | none => rw [hq] at h; cases h
 | some l => rfl
theorem words_size : wordsC.size ≤ 1000 := by decide
noncomputable def oc15 : Orc where
 pure := fun f args => match f, args with
  | 142, [a0] => match dA .str a0 with
   | some x0 => some (.c (.ro .str (wordsL)))
   | _ => none
  | _, _ => none
 heap := fun _ _ _ => none
def words_lv : LV := ⟨([]), []⟩
noncomputable def words_T  : Tree :=
 .call 142 [.c (.str wordsC)] false (.c (.ro .str wordsL)) <|
 .ret (.c (.ro .str wordsL)) []
theorem words_T_ok  : aRun Tryd.prog oc15 Tryd.f116 words_lv 3000 [.code (bodyOf Tryd.f116)] ([] ++ List.replicate (Func.ntmps Tryd.f116 - 0) .junk) [] = words_T  := by kernel_rfl
theorem words_fun  : AFun Tryd.prog 116 [] (.c (.ro .str (wordsL))) :=
 AFun.of oc15 words_lv 3000 Tryd.func116 mixed rfl (by decide) (Nat.le_of_ble_eq_true rfl) _ (words_T_ok ) fun hF => by
  unfold words_T
  refine g_call (fields_fun _ 19 _ 300 300 words_size (by decide) words_m words_w) (fun h => nomatch h) ?_
  exact g_rt rfl rfl (by simp [leAV, leA1, leC])

theorem drop_eqL {α : Type} [DecidableEq α] {a b : List α} {i : Nat} (d : α) (hl : a.length = b.length) (hi : i < a.length) : (a.drop i = b.drop i) ↔ (a.getD i d = b.getD i d ∧ a.drop (i + 1) = b.drop (i + 1)) := by
 rw [dropCons (l := a) d hi, dropCons (l := b) d (by omega), List.cons.injEq]
def eqS_lv : LV := ⟨(true :: true :: F8 (F2 (true :: true :: F8 (F4 ([]))))), []⟩
noncomputable def eqS_T (a : List ByteArray) (b : List ByteArray) : Tree :=
 .ite ((!(decide ((a.length : Int) = (b.length : Int)))))
 (.ret (.c (.lit false)) [])
 (.stop (lp (bodyOf Tryd.f117) 0) (.c (.ro .str a) :: .c (.ro .str b) :: J8 (J2 (.c (.int .i64 (a.length : Int)) :: .c (.int .i64 0) :: J8 (J4 ([]))))) [])
theorem eqS_T_ok (a : List ByteArray) (b : List ByteArray) : aRun Tryd.prog oc0 Tryd.f117 eqS_lv 3000 [.code (bodyOf Tryd.f117)] ([.c (.ro .str a), .c (.ro .str b)] ++ List.replicate (Func.ntmps Tryd.f117 - 2) .junk) [] = eqS_T a b := by kernel_rfl
noncomputable def eqS_l0_R (a : List ByteArray) (b : List ByteArray) (i : Nat) : Tree :=
 .ite (decide (((i : Nat) : Int) < (a.length : Int)))
 (.need ((0 : Int) ≤ ((i : Nat) : Int) ∧ (((i : Nat) : Int) : Int) < (a.length : Int)) <|
  .need (i < a.length) <|
  .need ((0 : Int) ≤ ((i : Nat) : Int) ∧ (((i : Nat) : Int) : Int) < (b.length : Int)) <|
  .need (i < b.length) <|
  .ite ((!(decide ((a.getD i (.str : Ty).dflt) = (b.getD i (.str : Ty).dflt)))))
  (.ret (.c (.lit false)) [])
  (.need (inR .i64 (((i : Nat) : Int) + 1)) <|
  .stop (lp (bodyOf Tryd.f117) 0) (.c (.ro .str a) :: .c (.ro .str b) :: J8 (J2 (.c (.int .i64 (a.length : Int)) :: .c (.int .i64 (((i : Nat) : Int) + 1)) :: J8 (J4 ([]))))) []))
 (.ret (.c (.lit true)) [])
theorem eqS_l0_R_ok (a : List ByteArray) (b : List ByteArray) (i : Nat) : aRound Tryd.prog oc0 Tryd.f117 eqS_lv 3000 (lp (bodyOf Tryd.f117) 0) (.c (.ro .str a) :: .c (.ro .str b) :: J8 (J2 (.c (.int .i64 (a.length : Int)) :: .c (.int .i64 ((i : Nat) : Int)) :: J8 (J4 ([]))))) [] = eqS_l0_R a b i := by kernel_rfl
theorem eqS_l0 (a : List ByteArray) (b : List ByteArray) (i : Nat) (hl : a.length = b.length) (hb : a.length ≤ 9223372036854775807) : Run Tryd.prog 117 (retQ Tryd.prog (.c (.bool (decide (a.drop i = b.drop i))))) (lp (bodyOf Tryd.f117) 0) (.c (.ro .str a) :: .c (.ro .str b) :: J8 (J2 (.c (.int .i64 (a.length : Int)) :: .c (.int .i64 ((i : Nat) : Int)) :: J8 (J4 ([]))))) [] :=
 Run.roundA oc0 eqS_lv 3000 Tryd.func117 mixed (eqS_l0_R a b i) (eqS_l0_R_ok a b i) (by
  unfold eqS_l0_R
  refine g_iteD (fun h0 => ?_) (fun h0 => ?_)
  ·refine g_need (by omega) ?_
   refine g_need (by omega) ?_
   refine g_need (by omega) ?_
   refine g_need (by omega) ?_
   refine g_iteND (fun h1 => ?_) (fun h1 => ?_)
   ·exact g_retl (by first | (rw [List.drop_eq_nil_of_le (by omega), List.drop_eq_nil_of_le (by omega)]; rfl) | (symm; rw [decide_eq_false_iff_not, drop_eqL (Ty.dflt .str) hl (by omega)]; exact fun q => h1 q.1))
   ·refine g_need (i64_iff.2 (by omega)) ?_
    refine g_stop (RunN.keep [] (true :: true :: F8 (F2 (true :: true :: F8 (F4 ([]))))) n0 (by decide) rfl rfl ?_)
    have := eqS_l0 a b (i + 1) hl hb; have e : decide (a.drop i = b.drop i) = decide (a.drop (i + 1) = b.drop (i + 1)) := (by rw [decide_eq_decide, drop_eqL (Ty.dflt .str) hl (by omega)]; exact ⟨fun q => q.2, fun q => ⟨h1, q⟩⟩); rw [e]; exact this
  ·exact g_retl (by first | (rw [List.drop_eq_nil_of_le (by omega), List.drop_eq_nil_of_le (by omega)]; rfl) | (symm; rw [decide_eq_false_iff_not, drop_eqL (Ty.dflt .str) hl (by omega)]; exact fun q => h1 q.1))
  )
 termination_by a.length - i
 decreasing_by all_goals omega
theorem eqS_fun (a : List ByteArray) (b : List ByteArray) : AFun Tryd.prog 117 [.c (.ro .str a), .c (.ro .str b)] (.c (.bool (decide (a = b)))) :=
 AFun.of oc0 eqS_lv 3000 Tryd.func117 mixed rfl (by decide) (Nat.le_of_ble_eq_true rfl) _ (eqS_T_ok a b) fun hF => by
  unfold eqS_T
  refine g_iteND (fun h0 => ?_) (fun h0 => ?_)
  ·exact g_retl (by symm; rw [decide_eq_false_iff_not]; intro q; exact h0 (by rw [q]))
  ·refine g_stop (RunN.keep [] (true :: true :: F8 (F2 (true :: true :: F8 (F4 ([]))))) n0 (by decide) rfl rfl ?_)
   have := eqS_l0 a b 0 (by omega) hF.ro.1.1; exact this

end Go.Proofs.YtefkifdhjabdiaaDoor
namespace Go.Proofs.YtefkifdhjabdiaaDoor
set_option linter.unusedVariables false
set_option linter.unusedSimpArgs false
set_option maxRecDepth 100000
theorem lawStr : MapLaw Tryd.prog 9 .str := ⟨Maps.string_keyed Tryd.underlying9, fun x hx => by
 have hx : x.size ≤ 9223372036854775807 := hx
 have hm : x.size ≤ maxLen := hx
 exact ⟨.string x.data.toList, by simp [keyOf, mapKey, plainV, plainCs, Ty.isPair, Tryd.underlying9]; exact hm⟩⟩
def oddV (p : EProg) (v : EVal) : Bool := if rightVF v = true then (if v.1 = 5 then true else if v.1 = 4 then decide ((p.2.2.length : Int) ≤ v.2) else false) else true
noncomputable def oc16 : Orc where
 pure := fun f args => match f, args with
  | 85, [a0] => match dA tVal a0 with
   | some x0 => some (.c (.bool (rightVF x0)))
   | _ => none
  | _, _ => none
 heap := fun _ _ _ => none
def oddv_lv : LV := ⟨([]), []⟩
noncomputable def oddv_T (v : EVal) (p : EProg) : Tree :=
 .call 85 [.agg (Ty.enc tVal v)] false (.c (.bool (rightVF v))) <|
 .ite ((!(rightVF v)))
 (.ret (.c (.lit true)) [.cells 39 (Ty.enc tProg p), .cells 44 (Ty.enc tVal v)])
 (.ite (decide (v.1 = 5))
  (.ret (.c (.lit true)) [.cells 39 (Ty.enc tProg p), .cells 44 (Ty.enc tVal v)])
  (.ite (decide (v.1 = 4))
  (.ret (.c (.bool (decide ((p.2.2.length : Int) ≤ v.2)))) [.cells 39 (Ty.enc tProg p), .cells 44 (Ty.enc tVal v)])
  (.ret (.c (.lit false)) [.cells 39 (Ty.enc tProg p), .cells 44 (Ty.enc tVal v)])))
theorem oddv_T_ok (v : EVal) (p : EProg) : aRun Tryd.prog oc16 Tryd.f119 oddv_lv 3000 [.code (bodyOf Tryd.f119)] ([.agg (Ty.enc tVal v), .c (.ptr 0 0 0 0)] ++ List.replicate (Func.ntmps Tryd.f119 - 2) .junk) [.cells 39 (Ty.enc tProg p)] = oddv_T v p := by kernel_rfl
theorem oddv_fun (v : EVal) (p : EProg) : AFunH Tryd.prog 119 [.agg (Ty.enc tVal v), .c (.ptr 0 0 0 0)] [.cells 39 (Ty.enc tProg p)] (.c (.bool (oddV p v))) [.cells 39 (Ty.enc tProg p)] (List.range 1) :=
 AFunH.of oc16 oddv_lv 3000 Tryd.func119 mixed rfl (by decide) (Nat.le_of_ble_eq_true rfl) rfl rfl (Nat.le_refl _) _ (oddv_T_ok v p) fun hF => by
  unfold oddv_T
  refine g_call (rightV_fun v) (fun h => nomatch h) ?_
  refine g_iteN (fun h0 => ?_) (fun h0 => ?_)
  ·exact g_rh [0] (show ∀ k, k < 1 → ([0] : List Nat)[k]? = some k by decide) (by decide) (by simp only [renA, ren1, renC, leAV, leA1, leC]; first | (simp only [oddV, h0, if_true, if_false, Bool.false_eq_true]; done) | (simp_all [oddV]; done)) rfl
  ·refine g_iteD (fun h1 => ?_) (fun h1 => ?_)
   ·exact g_rh [0] (show ∀ k, k < 1 → ([0] : List Nat)[k]? = some k by decide) (by decide) (by simp only [renA, ren1, renC, leAV, leA1, leC]; first | (simp only [oddV, h0, h1, if_true, if_false, Bool.false_eq_true]; done) | (simp_all [oddV]; done)) rfl
   ·refine g_iteD (fun h2 => ?_) (fun h2 => ?_)
    ·exact g_rh [0] (show ∀ k, k < 1 → ([0] : List Nat)[k]? = some k by decide) (by decide) (by simp only [renA, ren1, renC, leAV, leA1, leC]; first | (simp only [oddV, h0, h1, h2, if_true, if_false, Bool.false_eq_true]; done) | (simp_all [oddV]; done)) rfl
    ·exact g_rh [0] (show ∀ k, k < 1 → ([0] : List Nat)[k]? = some k by decide) (by decide) (by simp only [renA, ren1, renC, leAV, leA1, leC]; first | (simp only [oddV, h0, h1, h2, if_true, if_false, Bool.false_eq_true]; done) | (simp_all [oddV]; done)) rfl

def firstV (q : EVal → Bool) : Nat → List EVal → Int
 | _, [] => -1
 | i, f :: r => if q f = true then (i : Int) else firstV q (i + 1) r
theorem firstV_ge {q : EVal → Bool} : ∀ {l : List EVal} {i : Nat}, decide (0 ≤ firstV q i l) = l.any q
 | [], i => rfl
 | f :: r, i => by
  unfold firstV
  rw [List.any_cons]
  split
  ·rename_i h; rw [h]; simp
  ·rename_i h; rw [firstV_ge (l := r)]; simp only [Bool.not_eq_true] at h; rw [h]; rfl
noncomputable def oc17 : Orc where
 pure := fun f args => match f, args with
  | _, _ => none
 heap := fun f args H => match f, args with
  | 119, [a0, .one (.c (.ptr 0 0 0 0))] => match H with
   | [b0] => (match dA tVal a0, dB 39 tProg b0 with
    | some x0, some y0 => some (.c (.bool (oddV y0 x0)), [b0], List.range 1)
    | _, _ => none)
   | _ => none
  | _, _ => none
def idxV_lv : LV := ⟨(true :: true :: F4 (false :: true :: true :: F8 (F2 ([])))), []⟩
noncomputable def idxV_T (l : List EVal) (p : EProg) : Tree :=
 .stop (lp (bodyOf Tryd.f143) 0) (.c (.ro tVal l) :: .c (.fnc (.fn0 119) (.ptr 0 0 0 0)) :: J4 (.junk :: .c (.int .i64 (l.length : Int)) :: .c (.int .i64 0) :: J8 (J2 ([])))) [.cells 39 (Ty.enc tProg p)]
theorem idxV_T_ok (l : List EVal) (p : EProg) : aRun Tryd.prog oc17 Tryd.f143 idxV_lv 3000 [.code (bodyOf Tryd.f143)] ([.c (.ro tVal l), .c (.fnc (.fn0 119) (.ptr 0 0 0 0))] ++ List.replicate (Func.ntmps Tryd.f143 - 2) .junk) [.cells 39 (Ty.enc tProg p)] = idxV_T l p := by kernel_rfl
noncomputable def idxV_l0_R (l : List EVal) (p : EProg) (i : Nat) : Tree :=
 .ite (decide (((i : Nat) : Int) < (l.length : Int)))
 (.need ((0 : Int) ≤ ((i : Nat) : Int) ∧ (((i : Nat) : Int) : Int) < (l.length : Int)) <|
  .need (i < l.length) <|
  .callH 119 [.agg [.int .i64 (l.getD i tVal.dflt).1, .int .i64 (l.getD i tVal.dflt).2], .c (.ptr 0 0 0 0)] [.cells 39 (Ty.enc tProg p)] (.c (.bool (oddV p (l.getD i tVal.dflt)))) [.cells 39 (Ty.enc tProg p)] [0] <|
  .ite (oddV p (l.getD i tVal.dflt))
  (.ret (.c (.int .i64 ((i : Nat) : Int))) [.cells 39 (Ty.enc tProg p)])
  (.need (inR .i64 (((i : Nat) : Int) + 1)) <|
  .stop (lp (bodyOf Tryd.f143) 0) (.c (.ro tVal l) :: .c (.fnc (.fn0 119) (.ptr 0 0 0 0)) :: J4 (.junk :: .c (.int .i64 (l.length : Int)) :: .c (.int .i64 (((i : Nat) : Int) + 1)) :: J8 (J2 ([])))) [.cells 39 (Ty.enc tProg p)]))
 (.ret (.c (.int .i64 (-1))) [.cells 39 (Ty.enc tProg p)])
theorem idxV_l0_R_ok (l : List EVal) (p : EProg) (i : Nat) : aRound Tryd.prog oc17 Tryd.f143 idxV_lv 3000 (lp (bodyOf Tryd.f143) 0) (.c (.ro tVal l) :: .c (.fnc (.fn0 119) (.ptr 0 0 0 0)) :: J4 (.junk :: .c (.int .i64 (l.length : Int)) :: .c (.int .i64 ((i : Nat) : Int)) :: J8 (J2 ([])))) [.cells 39 (Ty.enc tProg p)] = idxV_l0_R l p i := by kernel_rfl
theorem idxV_l0 (l : List EVal) (p : EProg) (i : Nat) (hl : l.length ≤ 9223372036854775807) : RunN 1 Tryd.prog 143 (retH 1 (.c (.int .i64 (firstV (oddV p) i (l.drop i)))) [.cells 39 (Ty.enc tProg p)]) (lp (bodyOf Tryd.f143) 0) (.c (.ro tVal l) :: .c (.fnc (.fn0 119) (.ptr 0 0 0 0)) :: J4 (.junk :: .c (.int .i64 (l.length : Int)) :: .c (.int .i64 ((i : Nat) : Int)) :: J8 (J2 ([])))) [.cells 39 (Ty.enc tProg p)] :=
 Run.roundA oc17 idxV_lv 3000 Tryd.func143 mixed (idxV_l0_R l p i) (idxV_l0_R_ok l p i) (by
  unfold idxV_l0_R
  refine g_iteD (fun h0 => ?_) (fun h0 => ?_)
  ·refine g_need (by omega) ?_
   refine g_need (by omega) ?_
   refine g_callH (oddv_fun (l.getD i tVal.dflt) p) ?_
   refine g_ite (fun h1 => ?_) (fun h1 => ?_)
   ·exact g_rh [0] (show ∀ k, k < 1 → ([0] : List Nat)[k]? = some k by decide) (by decide) (by simp only [renA, ren1, renC, leAV, leA1, leC]; refine ⟨trivial, ?_⟩; first | (rw [dropCons (α := EVal) (Ty.dflt tVal) (by omega)]; simp only [firstV, h0, h1, if_true]; done) | (rw [List.drop_eq_nil_of_le (by omega)]; rfl)) rfl
   ·refine g_need (by first | rfl | exact ⟨rfl, lawStr⟩ | omega | (constructor <;> omega) | (rw [i64_iff]; omega) | (rw [i64_iff]; constructor <;> omega) | exact ⟨rfl, lawStr, by omega⟩) ?_
    refine g_stop (RunN.keep [0] (true :: true :: F4 (false :: true :: true :: F8 (F2 ([])))) (show ∀ k, k < 1 → ([0] : List Nat)[k]? = some k by decide) (by decide) rfl rfl ?_)
    have := idxV_l0 l p (i + 1) hl; rw [dropCons (α := EVal) (Ty.dflt tVal) (by omega)]; simp only [firstV, h0, h1, if_false, Bool.false_eq_true]; exact this
  ·exact g_rh [0] (show ∀ k, k < 1 → ([0] : List Nat)[k]? = some k by decide) (by decide) (by simp only [renA, ren1, renC, leAV, leA1, leC]; refine ⟨trivial, ?_⟩; first | (rw [dropCons (α := EVal) (Ty.dflt tVal) (by omega)]; simp only [firstV, h0, if_true]; done) | (rw [List.drop_eq_nil_of_le (by omega)]; rfl)) rfl
  )
 termination_by l.length - i
 decreasing_by all_goals omega
theorem idxV_fun (l : List EVal) (p : EProg) : AFunH Tryd.prog 143 [.c (.ro tVal l), .c (.fnc (.fn0 119) (.ptr 0 0 0 0))] [.cells 39 (Ty.enc tProg p)] (.c (.int .i64 (firstV (oddV p) 0 l))) [.cells 39 (Ty.enc tProg p)] (List.range 1) :=
 AFunH.of oc17 idxV_lv 3000 Tryd.func143 mixed rfl (by decide) (Nat.le_of_ble_eq_true rfl) rfl rfl (Nat.le_refl _) _ (idxV_T_ok l p) fun hF => by
  have hl : l.length ≤ 9223372036854775807 := (hF.ro (i := 0) rfl).1
  unfold idxV_T
  refine g_stop (RunN.keep [0] (true :: true :: F4 (false :: true :: true :: F8 (F2 ([])))) (show ∀ k, k < 1 → ([0] : List Nat)[k]? = some k by decide) (by decide) rfl rfl ?_)
  exact idxV_l0 l p 0 hl

noncomputable def oc18 : Orc where
 pure := fun f args => match f, args with
  | _, _ => none
 heap := fun f args H => match f, args with
  | 143, [a0, .one (.c (.fnc (.fn0 119) (.ptr 0 0 0 0)))] => match H with
   | [b0] => (match dA (.slice tVal) a0, dB 39 tProg b0 with
    | some x0, some y0 => some (.c (.int .i64 (firstV (oddV y0) 0 x0)), [b0], List.range 1)
    | _, _ => none)
   | _ => none
  | _, _ => none
def conV_lv : LV := ⟨([]), []⟩
noncomputable def conV_T (l : List EVal) (p : EProg) : Tree :=
 .callH 143 [.c (.ro tVal l), .c (.fnc (.fn0 119) (.ptr 0 0 0 0))] [.cells 39 (Ty.enc tProg p)] (.c (.int .i64 (firstV (oddV p) 0 l))) [.cells 39 (Ty.enc tProg p)] [0] <|
 .ret (.c (.bool (decide ((0 : Int) ≤ firstV (oddV p) 0 l)))) [.cells 39 (Ty.enc tProg p)]
theorem conV_T_ok (l : List EVal) (p : EProg) : aRun Tryd.prog oc18 Tryd.f118 conV_lv 3000 [.code (bodyOf Tryd.f118)] ([.c (.ro tVal l), .c (.fnc (.fn0 119) (.ptr 0 0 0 0))] ++ List.replicate (Func.ntmps Tryd.f118 - 2) .junk) [.cells 39 (Ty.enc tProg p)] = conV_T l p := by kernel_rfl
theorem conV_fun (l : List EVal) (p : EProg) : AFunH Tryd.prog 118 [.c (.ro tVal l), .c (.fnc (.fn0 119) (.ptr 0 0 0 0))] [.cells 39 (Ty.enc tProg p)] (.c (.bool (List.any l (oddV p)))) [.cells 39 (Ty.enc tProg p)] (List.range 1) :=
 AFunH.of oc18 conV_lv 3000 Tryd.func118 mixed rfl (by decide) (Nat.le_of_ble_eq_true rfl) rfl rfl (Nat.le_refl _) _ (conV_T_ok l p) fun hF => by
  unfold conV_T
  refine g_callH (idxV_fun l p) ?_
  exact g_rh [0] (show ∀ k, k < 1 → ([0] : List Nat)[k]? = some k by decide) (by decide) (by simp only [renA, ren1, renC, leAV, leA1, leC]; exact firstV_ge) rfl

noncomputable def oc19 : Orc where
 pure := fun f args => match f, args with
  | 116, [] => some (.c (.ro .str (wordsL)))
  | 117, [a0, a1] => match dA (.slice .str) a0, dA (.slice .str) a1 with
   | some x0, some x1 => some (.c (.bool (decide (x0 = x1))))
   | _, _ => none
  | _, _ => none
 heap := fun f args H => match f, args with
  | 118, [a0, .one (.c (.fnc (.fn0 119) (.ptr 0 0 0 0)))] => match H with
   | [b0] => (match dA (.slice tVal) a0, dB 39 tProg b0 with
    | some x0, some y0 => some (.c (.bool (List.any x0 (oddV y0))), [b0], List.range 1)
    | _, _ => none)
   | _ => none
  | _, _ => none
def onceF (p : EProg) : List ByteArray → (ByteArray → Option Int) → Bool
 | [], _ => !(List.any p.2.1 (oddV p))
 | t :: r, m => if (m t).getD 0 = 1 then false else onceF p r (updM (kt := .str) m t 1)
noncomputable def tablesF (p : EProg) : Bool := if (p.2.2.length : Int) < (wordsL.length : Int) then false else if p.2.2.take wordsL.length = wordsL then onceF p p.2.2 (fun _ => none) else false
def tables_lv : LV := ⟨(false :: true :: F2 (true :: F16 (F4 (false :: true :: true :: true :: F8 (F4 (F2 (false :: []))))))), [4, 12]⟩
noncomputable def tables_T (p : EProg) : Tree :=
 .call 116 [] false (.c (.ro .str wordsL)) <|
 .ite (decide ((p.2.2.length : Int) < (wordsL.length : Int)))
 (.ret (.c (.lit false)) [.cells 39 (Ty.enc tProg p)])
 (.need ((0 : Int) ≤ (wordsL.length : Int) ∧ ((wordsL.length : Int) : Int) ≤ (p.2.2.length : Int)) <|
  .call 117 [.c (.ro .str (p.2.2.take wordsL.length)), .c (.ro .str wordsL)] false (.c (.bool (decide ((p.2.2.take wordsL.length) = wordsL)))) <|
  .ite ((!(decide ((p.2.2.take wordsL.length) = wordsL))))
  (.ret (.c (.lit false)) [.cells 39 (Ty.enc tProg p)])
  (.stop (rg (bodyOf Tryd.f80) 4) (.junk :: .c (.ptr 0 0 0 0) :: J32 (J8 (J2 ([])))) [.cells 39 (Ty.enc tProg p)]))
theorem tables_T_ok (p : EProg) : aRun Tryd.prog oc19 Tryd.f80 tables_lv 3000 [.code (bodyOf Tryd.f80)] ([.agg (tProg.enc p)] ++ List.replicate (Func.ntmps Tryd.f80 - 1) .junk) [] = tables_T p := by kernel_rfl
noncomputable def tables_r12_R (p : EProg) : Tree :=
 .callH 118 [.c (.ro tVal p.2.1), .c (.fnc (.fn0 119) (.ptr 0 0 0 0))] [.cells 39 (Ty.enc tProg p)] (.c (.bool (List.any p.2.1 (oddV p)))) [.cells 39 (Ty.enc tProg p)] [0] <|
 .ret (.c (.bool (!(List.any p.2.1 (oddV p))))) [.cells 39 (Ty.enc tProg p)]
theorem tables_r12_R_ok (p : EProg) : aRound Tryd.prog oc19 Tryd.f80 tables_lv 3000 (rg (bodyOf Tryd.f80) 12) (.junk :: .c (.ptr 0 0 0 0) :: J32 (J8 (J2 ([])))) [.cells 39 (Ty.enc tProg p)] = tables_r12_R p := by kernel_rfl
noncomputable def tables_l0_R (p : EProg) (i : Nat) (n : Nat) (m : ByteArray → Option Int) : Tree :=
 .ite (decide (((i : Nat) : Int) < (p.2.2.length : Int)))
 (.need ((0 : Int) ≤ ((i : Nat) : Int) ∧ (((i : Nat) : Int) : Int) < (p.2.2.length : Int)) <|
  .need (i < p.2.2.length) <|
  .need (Tryd.prog = Tryd.prog ∧ MapLaw Tryd.prog 9 .str) <|
  .ite (decide (((m (p.2.2.getD i (.str : Ty).dflt)).getD 0) = 1))
  (.ret (.c (.lit false)) [.cells 39 (Ty.enc tProg p), .map 9 .str tI n m])
  (.need (Tryd.prog = Tryd.prog ∧ MapLaw Tryd.prog 9 .str ∧ n < 140737488355328) <|
  .need (inR .i64 (((i : Nat) : Int) + 1)) <|
  .stop (lp (bodyOf Tryd.f80) 0) (.junk :: .c (.ptr 0 0 0 0) :: J2 (.c (.map 1) :: J16 (J4 (.junk :: .c (.ro .str p.2.2) :: .c (.int .i64 (p.2.2.length : Int)) :: .c (.int .i64 (((i : Nat) : Int) + 1)) :: J8 (J4 (J2 (.junk :: []))))))) [.cells 39 (Ty.enc tProg p), .map 9 .str tI (n + 1) (updM (kt := .str) m (p.2.2.getD i (.str : Ty).dflt) (1 : Int))]))
 (.stop (rg (bodyOf Tryd.f80) 12) (.junk :: .c (.ptr 0 0 0 0) :: J2 (.c (.map 1) :: J16 (J4 (.junk :: .c (.ro .str p.2.2) :: .c (.int .i64 (p.2.2.length : Int)) :: .c (.int .i64 ((i : Nat) : Int)) :: J8 (J4 (J2 (.junk :: []))))))) [.cells 39 (Ty.enc tProg p), .map 9 .str tI n m])
theorem tables_l0_R_ok (p : EProg) (i : Nat) (n : Nat) (m : ByteArray → Option Int) : aRound Tryd.prog oc19 Tryd.f80 tables_lv 3000 (lp (bodyOf Tryd.f80) 0) (.junk :: .c (.ptr 0 0 0 0) :: J2 (.c (.map 1) :: J16 (J4 (.junk :: .c (.ro .str p.2.2) :: .c (.int .i64 (p.2.2.length : Int)) :: .c (.int .i64 ((i : Nat) : Int)) :: J8 (J4 (J2 (.junk :: []))))))) [.cells 39 (Ty.enc tProg p), .map 9 .str tI n m] = tables_l0_R p i n m := by kernel_rfl
noncomputable def tables_r4_R (p : EProg) : Tree :=
 .need (Tryd.prog = Tryd.prog) <|
 .stop (lp (bodyOf Tryd.f80) 0) (.junk :: .c (.ptr 0 0 0 0) :: J2 (.c (.map 1) :: J16 (J4 (.junk :: .c (.ro .str p.2.2) :: .c (.int .i64 (p.2.2.length : Int)) :: .c (.int .i64 0) :: J8 (J4 (J2 (.junk :: []))))))) [.cells 39 (Ty.enc tProg p), .map 9 .str tI 0 (fun _ => none)]
theorem tables_r4_R_ok (p : EProg) : aRound Tryd.prog oc19 Tryd.f80 tables_lv 3000 (rg (bodyOf Tryd.f80) 4) (.junk :: .c (.ptr 0 0 0 0) :: J32 (J8 (J2 ([])))) [.cells 39 (Ty.enc tProg p)] = tables_r4_R p := by kernel_rfl
theorem tables_r12 (p : EProg)  : Run Tryd.prog 80 (retQ Tryd.prog (.c (.bool (!(List.any p.2.1 (oddV p)))))) (rg (bodyOf Tryd.f80) 12) (.junk :: .c (.ptr 0 0 0 0) :: J32 (J8 (J2 ([])))) [.cells 39 (Ty.enc tProg p)] :=
 Run.roundA oc19 tables_lv 3000 Tryd.func80 mixed (tables_r12_R p) (tables_r12_R_ok p) (by
  unfold tables_r12_R
  refine g_callH (conV_fun p.2.1 p) ?_
  exact g_retb (by rfl)
  )
theorem tables_l0 (p : EProg) (i : Nat) (n : Nat) (m : ByteArray → Option Int) (hl : p.2.2.length ≤ 200) (hn : n = i) : Run Tryd.prog 80 (retQ Tryd.prog (.c (.bool (onceF p (p.2.2.drop i) m)))) (lp (bodyOf Tryd.f80) 0) (.junk :: .c (.ptr 0 0 0 0) :: J2 (.c (.map 1) :: J16 (J4 (.junk :: .c (.ro .str p.2.2) :: .c (.int .i64 (p.2.2.length : Int)) :: .c (.int .i64 ((i : Nat) : Int)) :: J8 (J4 (J2 (.junk :: []))))))) [.cells 39 (Ty.enc tProg p), .map 9 .str tI n m] :=
 Run.roundA oc19 tables_lv 3000 Tryd.func80 mixed (tables_l0_R p i n m) (tables_l0_R_ok p i n m) (by
  unfold tables_l0_R
  refine g_iteD (fun h0 => ?_) (fun h0 => ?_)
  ·refine g_need (by omega) ?_
   refine g_need (by omega) ?_
   refine g_need (by first | rfl | exact ⟨rfl, lawStr⟩ | omega | (constructor <;> omega) | (rw [i64_iff]; omega) | (rw [i64_iff]; constructor <;> omega) | exact ⟨rfl, lawStr, by omega⟩) ?_
   refine g_iteD (fun h1 => ?_) (fun h1 => ?_)
   ·exact g_retl (by rw [dropCons (α := ByteArray) (Ty.dflt .str) (by omega)]; simp only [onceF, h0, h1, if_true])
   ·refine g_need (by first | rfl | exact ⟨rfl, lawStr⟩ | omega | (constructor <;> omega) | (rw [i64_iff]; omega) | (rw [i64_iff]; constructor <;> omega) | exact ⟨rfl, lawStr, by omega⟩) ?_
    refine g_need (by first | rfl | exact ⟨rfl, lawStr⟩ | omega | (constructor <;> omega) | (rw [i64_iff]; omega) | (rw [i64_iff]; constructor <;> omega) | exact ⟨rfl, lawStr, by omega⟩) ?_
    refine g_stop (RunN.keep [0, 1] (false :: true :: F2 (true :: F16 (F4 (false :: true :: true :: true :: F8 (F4 (F2 (false :: []))))))) n0 (by decide) rfl rfl ?_)
    have := tables_l0 p (i + 1) (n + 1) (updM (kt := .str) m (p.2.2.getD i (.str : Ty).dflt) (1 : Int)) hl (by omega); rw [dropCons (α := ByteArray) (Ty.dflt .str) (by omega)]; simp only [onceF, h0, h1, if_false]; exact this
  ·refine g_stop (RunN.keep [0] (false :: true :: F32 (F8 (F2 ([])))) n0 (by decide) rfl rfl ?_)
   have := tables_r12 p; rw [List.drop_eq_nil_of_le (by omega)]; exact this
  )
 termination_by p.2.2.length - i
 decreasing_by all_goals omega
theorem tables_r4 (p : EProg) (hl : p.2.2.length ≤ 200) : Run Tryd.prog 80 (retQ Tryd.prog (.c (.bool (onceF p p.2.2 (fun _ => none))))) (rg (bodyOf Tryd.f80) 4) (.junk :: .c (.ptr 0 0 0 0) :: J32 (J8 (J2 ([])))) [.cells 39 (Ty.enc tProg p)] :=
 Run.roundA oc19 tables_lv 3000 Tryd.func80 mixed (tables_r4_R p) (tables_r4_R_ok p) (by
  unfold tables_r4_R
  refine g_need (rfl) ?_
  refine g_stop (RunN.keep [0, 1] (false :: true :: F2 (true :: F16 (F4 (false :: true :: true :: true :: F8 (F4 (F2 (false :: []))))))) n0 (by decide) rfl rfl ?_)
  have := tables_l0 p 0 0 (fun _ => none) hl rfl; exact this
  )
theorem tables_fun (p : EProg) (hl : p.2.2.length ≤ 200) : AFun Tryd.prog 80 [.agg (tProg.enc p)] (.c (.bool (tablesF p))) :=
 AFun.of oc19 tables_lv 3000 Tryd.func80 mixed rfl (by decide) (Nat.le_of_ble_eq_true rfl) _ (tables_T_ok p) fun hF => by
  unfold tables_T
  refine g_call (words_fun) (fun h => nomatch h) ?_
  refine g_iteD (fun h0 => ?_) (fun h0 => ?_)
  ·exact g_retl (by simp only [tablesF, h0, if_true, if_false])
  ·refine g_need (by first | rfl | exact ⟨rfl, lawStr⟩ | omega | (constructor <;> omega) | (rw [i64_iff]; omega) | (rw [i64_iff]; constructor <;> omega) | exact ⟨rfl, lawStr, by omega⟩) ?_
   refine g_call (eqS_fun (p.2.2.take wordsL.length) wordsL) (fun h => nomatch h) ?_
   refine g_iteND (fun h1 => ?_) (fun h1 => ?_)
   ·exact g_retl (by simp only [tablesF, h0, h1, if_true, if_false])
   ·refine g_stop (RunN.keep [0] (false :: true :: F32 (F8 (F2 ([])))) n0 (by decide) rfl rfl ?_)
    have ht := tables_r4 p hl; simp only [tablesF, h0, h1, if_true, if_false]; exact ht

end Go.Proofs.YtefkifdhjabdiaaDoor
namespace Go.Proofs.YtefkifdhjabdiaaDoor
set_option linter.unusedVariables false
set_option linter.unusedSimpArgs false
set_option maxRecDepth 100000
noncomputable def oc11 : Orc where
 pure := fun f args => match f, args with
  | 83, [a0, a1] => match dA tProg a0, dA tFn a1 with
   | some x0, some x1 => some (.c (.bool (functionF (toProg x0) (toFn x1))))
   | _, _ => none
  | _, _ => none
 heap := fun _ _ _ => none
def bad_lv : LV := ⟨([]), []⟩
noncomputable def bad_T (f : EFn) (p : EProg) : Tree :=
 .call 83 [.agg (Ty.enc tProg p), .agg (Ty.enc tFn f)] false (.c (.bool (functionF (toProg p) (toFn f)))) <|
 .ret (.c (.bool (!(functionF (toProg p) (toFn f))))) [.cells 39 (Ty.enc tProg p), .cells 84 (Ty.enc tFn f)]
theorem bad_T_ok (f : EFn) (p : EProg) : aRun Tryd.prog oc11 Tryd.f82 bad_lv 3000 [.code (bodyOf Tryd.f82)] ([.agg (Ty.enc tFn f), .c (.ptr 0 0 0 0)] ++ List.replicate (Func.ntmps Tryd.f82 - 2) .junk) [.cells 39 (Ty.enc tProg p)] = bad_T f p := by kernel_rfl
theorem bad_fun (f : EFn) (p : EProg) (hf : f.2.2.2.2.length ≤ 600 ∧ f.2.1 ≤ 60) : AFunH Tryd.prog 82 [.agg (Ty.enc tFn f), .c (.ptr 0 0 0 0)] [.cells 39 (Ty.enc tProg p)] (.c (.bool ((!(functionF (toProg p) (toFn f)))))) [.cells 39 (Ty.enc tProg p)] (List.range 1) :=
 AFunH.of oc11 bad_lv 3000 Tryd.func82 mixed rfl (by decide) (Nat.le_of_ble_eq_true rfl) rfl rfl (Nat.le_refl _) _ (bad_T_ok f p) fun hF => by
  unfold bad_T
  refine g_call (function_fun p f hf.1 hf.2) (fun h => nomatch h) ?_
  exact g_rh [0] (show ∀ k, k < 1 → ([0] : List Nat)[k]? = some k by decide) (by decide) (by simp only [renA, ren1, renC, leAV, leA1, leC]; try rfl) rfl

def firstF (q : EFn → Bool) : Nat → List EFn → Int
 | _, [] => -1
 | i, f :: r => if q f = true then (i : Int) else firstF q (i + 1) r
theorem firstF_ge {q : EFn → Bool} : ∀ {l : List EFn} {i : Nat}, decide (0 ≤ firstF q i l) = l.any q
 | [], i => rfl
 | f :: r, i => by
  unfold firstF
  rw [List.any_cons]
  split
  ·rename_i h; rw [h]; simp
  ·rename_i h; rw [firstF_ge (l := r)]; simp only [Bool.not_eq_true] at h; rw [h]; rfl
def badF (p : EProg) (f : EFn) : Bool := !(functionF (toProg p) (toFn f))
noncomputable def oc12 : Orc where
 pure := fun f args => match f, args with
  | _, _ => none
 heap := fun f args H => match f, args with
  | 82, [a0, .one (.c (.ptr 0 0 0 0))] => match H with
   | [b0] => (match dA tFn a0, dB 39 tProg b0 with
    | some x0, some y0 => some (.c (.bool ((!(functionF (toProg y0) (toFn x0))))), [b0], List.range 1)
    | _, _ => none)
   | _ => none
  | _, _ => none
def idxB_lv : LV := ⟨(true :: true :: F4 (false :: true :: true :: F8 (F2 ([])))), []⟩
noncomputable def idxB_T (l : List EFn) (p : EProg) : Tree :=
 .stop (lp (bodyOf Tryd.f120) 0) (.c (.ro tFn l) :: .c (.fnc (.fn0 82) (.ptr 0 0 0 0)) :: J4 (.junk :: .c (.int .i64 (l.length : Int)) :: .c (.int .i64 0) :: J8 (J2 ([])))) [.cells 39 (Ty.enc tProg p)]
theorem idxB_T_ok (l : List EFn) (p : EProg) : aRun Tryd.prog oc12 Tryd.f120 idxB_lv 3000 [.code (bodyOf Tryd.f120)] ([.c (.ro tFn l), .c (.fnc (.fn0 82) (.ptr 0 0 0 0))] ++ List.replicate (Func.ntmps Tryd.f120 - 2) .junk) [.cells 39 (Ty.enc tProg p)] = idxB_T l p := by kernel_rfl
noncomputable def idxB_l0_R (l : List EFn) (p : EProg) (i : Nat) : Tree :=
 .ite (decide (((i : Nat) : Int) < (l.length : Int)))
 (.need ((0 : Int) ≤ ((i : Nat) : Int) ∧ (((i : Nat) : Int) : Int) < (l.length : Int)) <|
  .need (i < l.length) <|
  .callH 82 [.agg [.int .i64 (l.getD i tFn.dflt).1, .int .i64 (l.getD i tFn.dflt).2.1, .bool (l.getD i tFn.dflt).2.2.1, .ro tI (l.getD i tFn.dflt).2.2.2.1, .ro tOrd (l.getD i tFn.dflt).2.2.2.2], .c (.ptr 0 0 0 0)] [.cells 39 (Ty.enc tProg p)] (.c (.bool (!(functionF (toProg p) (toFn (l.getD i tFn.dflt)))))) [.cells 39 (Ty.enc tProg p)] [0] <|
  .ite ((!(functionF (toProg p) (toFn (l.getD i tFn.dflt)))))
  (.ret (.c (.int .i64 ((i : Nat) : Int))) [.cells 39 (Ty.enc tProg p)])
  (.need (inR .i64 (((i : Nat) : Int) + 1)) <|
  .stop (lp (bodyOf Tryd.f120) 0) (.c (.ro tFn l) :: .c (.fnc (.fn0 82) (.ptr 0 0 0 0)) :: J4 (.junk :: .c (.int .i64 (l.length : Int)) :: .c (.int .i64 (((i : Nat) : Int) + 1)) :: J8 (J2 ([])))) [.cells 39 (Ty.enc tProg p)]))
 (.ret (.c (.int .i64 (-1))) [.cells 39 (Ty.enc tProg p)])
theorem idxB_l0_R_ok (l : List EFn) (p : EProg) (i : Nat) : aRound Tryd.prog oc12 Tryd.f120 idxB_lv 3000 (lp (bodyOf Tryd.f120) 0) (.c (.ro tFn l) :: .c (.fnc (.fn0 82) (.ptr 0 0 0 0)) :: J4 (.junk :: .c (.int .i64 (l.length : Int)) :: .c (.int .i64 ((i : Nat) : Int)) :: J8 (J2 ([])))) [.cells 39 (Ty.enc tProg p)] = idxB_l0_R l p i := by kernel_rfl
theorem idxB_l0 (l : List EFn) (p : EProg) (i : Nat) (hl : l.length ≤ 9223372036854775807) (hs : ∀ f ∈ l, f.2.2.2.2.length ≤ 600 ∧ f.2.1 ≤ 60) : RunN 1 Tryd.prog 120 (retH 1 (.c (.int .i64 (firstF (badF p) i (l.drop i)))) [.cells 39 (Ty.enc tProg p)]) (lp (bodyOf Tryd.f120) 0) (.c (.ro tFn l) :: .c (.fnc (.fn0 82) (.ptr 0 0 0 0)) :: J4 (.junk :: .c (.int .i64 (l.length : Int)) :: .c (.int .i64 ((i : Nat) : Int)) :: J8 (J2 ([])))) [.cells 39 (Ty.enc tProg p)] :=
 Run.roundA oc12 idxB_lv 3000 Tryd.func120 mixed (idxB_l0_R l p i) (idxB_l0_R_ok l p i) (by
  unfold idxB_l0_R
  refine g_iteD (fun h0 => ?_) (fun h0 => ?_)
  ·refine g_need (by omega) ?_
   refine g_need (by omega) ?_
   refine g_callH (bad_fun (l.getD i tFn.dflt) p (hs _ (getD_mem (Ty.dflt tFn) (by omega)))) ?_
   refine g_iteN (fun h1 => ?_) (fun h1 => ?_)
   ·exact g_rh [0] (show ∀ k, k < 1 → ([0] : List Nat)[k]? = some k by decide) (by decide) (by simp only [renA, ren1, renC, leAV, leA1, leC]; refine ⟨trivial, ?_⟩; first | (rw [dropCons (α := EFn) (Ty.dflt tFn) (by omega)]; simp only [firstF, badF, h0, h1, if_true, Bool.not_false]; done) | (rw [List.drop_eq_nil_of_le (by omega)]; rfl)) rfl
   ·refine g_need (i64_iff.2 (by omega)) ?_
    refine g_stop (RunN.keep [0] (true :: true :: F4 (false :: true :: true :: F8 (F2 ([])))) (show ∀ k, k < 1 → ([0] : List Nat)[k]? = some k by decide) (by decide) rfl rfl ?_)
    have := idxB_l0 l p (i + 1) hl hs; rw [dropCons (α := EFn) (Ty.dflt tFn) (by omega)]; simp only [firstF, badF, h0, h1, if_false, Bool.false_eq_true, Bool.not_true]; exact this
  ·exact g_rh [0] (show ∀ k, k < 1 → ([0] : List Nat)[k]? = some k by decide) (by decide) (by simp only [renA, ren1, renC, leAV, leA1, leC]; refine ⟨trivial, ?_⟩; first | (rw [dropCons (α := EFn) (Ty.dflt tFn) (by omega)]; simp only [firstF, badF, h0, if_true, Bool.not_false]; done) | (rw [List.drop_eq_nil_of_le (by omega)]; rfl)) rfl
  )
 termination_by l.length - i
 decreasing_by all_goals omega
theorem idxB_fun (l : List EFn) (p : EProg) (hs : ∀ f ∈ l, f.2.2.2.2.length ≤ 600 ∧ f.2.1 ≤ 60) : AFunH Tryd.prog 120 [.c (.ro tFn l), .c (.fnc (.fn0 82) (.ptr 0 0 0 0))] [.cells 39 (Ty.enc tProg p)] (.c (.int .i64 (firstF (badF p) 0 l))) [.cells 39 (Ty.enc tProg p)] (List.range 1) :=
 AFunH.of oc12 idxB_lv 3000 Tryd.func120 mixed rfl (by decide) (Nat.le_of_ble_eq_true rfl) rfl rfl (Nat.le_refl _) _ (idxB_T_ok l p) fun hF => by
  have hl : l.length ≤ 9223372036854775807 := (hF.ro (i := 0) rfl).1
  unfold idxB_T
  refine g_stop (RunN.keep [0] (true :: true :: F4 (false :: true :: true :: F8 (F2 ([])))) (show ∀ k, k < 1 → ([0] : List Nat)[k]? = some k by decide) (by decide) rfl rfl ?_)
  exact idxB_l0 l p 0 hl hs

noncomputable def oc13 : Orc where
 pure := fun f args => match f, args with
  | _, _ => none
 heap := fun f args H => match f, args with
  | 120, [a0, .one (.c (.fnc (.fn0 82) (.ptr 0 0 0 0)))] => match H with
   | [b0] => (match dA (.slice tFn) a0, dB 39 tProg b0 with
    | some x0, some y0 => some (.c (.int .i64 (firstF (badF y0) 0 x0)), [b0], List.range 1)
    | _, _ => none)
   | _ => none
  | _, _ => none
def conB_lv : LV := ⟨([]), []⟩
noncomputable def conB_T (l : List EFn) (p : EProg) : Tree :=
 .callH 120 [.c (.ro tFn l), .c (.fnc (.fn0 82) (.ptr 0 0 0 0))] [.cells 39 (Ty.enc tProg p)] (.c (.int .i64 (firstF (badF p) 0 l))) [.cells 39 (Ty.enc tProg p)] [0] <|
 .ret (.c (.bool (decide ((0 : Int) ≤ firstF (badF p) 0 l)))) [.cells 39 (Ty.enc tProg p)]
theorem conB_T_ok (l : List EFn) (p : EProg) : aRun Tryd.prog oc13 Tryd.f81 conB_lv 3000 [.code (bodyOf Tryd.f81)] ([.c (.ro tFn l), .c (.fnc (.fn0 82) (.ptr 0 0 0 0))] ++ List.replicate (Func.ntmps Tryd.f81 - 2) .junk) [.cells 39 (Ty.enc tProg p)] = conB_T l p := by kernel_rfl
theorem conB_fun (l : List EFn) (p : EProg) (hs : ∀ f ∈ l, f.2.2.2.2.length ≤ 600 ∧ f.2.1 ≤ 60) : AFunH Tryd.prog 81 [.c (.ro tFn l), .c (.fnc (.fn0 82) (.ptr 0 0 0 0))] [.cells 39 (Ty.enc tProg p)] (.c (.bool (List.any l (badF p)))) [.cells 39 (Ty.enc tProg p)] (List.range 1) :=
 AFunH.of oc13 conB_lv 3000 Tryd.func81 mixed rfl (by decide) (Nat.le_of_ble_eq_true rfl) rfl rfl (Nat.le_refl _) _ (conB_T_ok l p) fun hF => by
  unfold conB_T
  refine g_callH (idxB_fun l p hs) ?_
  exact g_rh [0] (show ∀ k, k < 1 → ([0] : List Nat)[k]? = some k by decide) (by decide) (by simp only [renA, ren1, renC, leAV, leA1, leC]; exact firstF_ge) rfl

theorem large_texts {p : EProg} (h : largeF (toProg p) = false) : p.2.2.length ≤ 200 := by
 unfold largeF at h
 simp only [Bool.or_eq_false_iff] at h
 have := of_decide_eq_false h.1.1.2
 simp [toProg] at this
 exact this
theorem large_fns {p : EProg} (h : largeF (toProg p) = false) : ∀ f ∈ p.1, f.2.2.2.2.length ≤ 600 ∧ f.2.1 ≤ 60 := by
 intro f hf
 unfold largeF at h
 simp only [Bool.or_eq_false_iff] at h
 have h1 := List.any_eq_false.1 h.2 (toFn f) (List.mem_map.2 ⟨f, hf, rfl⟩)
 simp [longFn, toFn] at h1
 exact ⟨h1.1, by have := of_decide_eq_false h1.2; omega⟩
noncomputable def oc14 : Orc where
 pure := fun f args => match f, args with
  | 79, [a0] => match dA tProg a0 with
   | some x0 => some (.c (.bool (largeF (toProg x0))))
   | _ => none
  | 80, [a0] => match dA tProg a0 with
   | some x0 => some (.c (.bool (tablesF x0)))
   | _ => none
  | _, _ => none
 heap := fun f args H => match f, args with
  | 81, [a0, .one (.c (.fnc (.fn0 82) (.ptr 0 0 0 0)))] => match H with
   | [b0] => (match dA (.slice tFn) a0, dB 39 tProg b0 with
    | some x0, some y0 => some (.c (.bool (List.any x0 (badF y0))), [b0], List.range 1)
    | _, _ => none)
   | _ => none
  | _, _ => none
noncomputable def okHead (p : EProg) : Bool := if tablesF p = true then (if p.1.length = 0 then false else if (p.1.getD 0 tFn.dflt).1 = 0 then (if 0 < (p.1.getD 0 tFn.dflt).2.2.2.1.length then false else if (p.1.getD 0 tFn.dflt).2.2.1 = true then false else true) else false) else false
noncomputable def codeF (p : EProg) : Int := if largeF (toProg p) = true then 2 else if okHead p = true then (if p.1.any (badF p) = true then 3 else 0) else 3
def codeCheck_lv : LV := ⟨(false :: true :: F32 (F8 ([]))), [5]⟩
noncomputable def codeCheck_T (p : EProg) : Tree :=
 .call 79 [.agg (Ty.enc tProg p)] false (.c (.bool (largeF (toProg p)))) <|
 .ite (largeF (toProg p))
 (.ret (.c (.int .i64 2)) [.cells 39 (Ty.enc tProg p)])
 (.call 80 [.agg (Ty.enc tProg p)] false (.c (.bool (tablesF p))) <|
  .ite ((!(tablesF p)))
  (.ret (.c (.int .i64 3)) [.cells 39 (Ty.enc tProg p)])
  (.ite (decide ((p.1.length : Int) = 0))
  (.ret (.c (.int .i64 3)) [.cells 39 (Ty.enc tProg p)])
  (.need ((0 : Int) ≤ 0 ∧ (0 : Int) < (p.1.length : Int)) <|
   .need (0 < p.1.length) <|
   .ite ((!(decide ((p.1.getD 0 tFn.dflt).1 = 0))))
   (.ret (.c (.int .i64 3)) [.cells 39 (Ty.enc tProg p)])
   (.need ((0 : Int) ≤ 0 ∧ (0 : Int) < (p.1.length : Int)) <|
   .need (0 < p.1.length) <|
   .ite (decide ((0 : Int) < ((p.1.getD 0 tFn.dflt).2.2.2.1.length : Int)))
   (.ret (.c (.int .i64 3)) [.cells 39 (Ty.enc tProg p)])
   (.need ((0 : Int) ≤ 0 ∧ (0 : Int) < (p.1.length : Int)) <|
    .need (0 < p.1.length) <|
    .ite ((p.1.getD 0 tFn.dflt).2.2.1)
    (.ret (.c (.int .i64 3)) [.cells 39 (Ty.enc tProg p)])
    (.stop (rg (bodyOf Tryd.f42) 5) (.junk :: .c (.ptr 0 0 0 0) :: J32 (J8 ([]))) [.cells 39 (Ty.enc tProg p)]))))))
theorem codeCheck_T_ok (p : EProg) : aRun Tryd.prog oc14 Tryd.f42 codeCheck_lv 3000 [.code (bodyOf Tryd.f42)] ([.agg (tProg.enc p)] ++ List.replicate (Func.ntmps Tryd.f42 - 1) .junk) [] = codeCheck_T p := by kernel_rfl
noncomputable def codeCheck_r5_R (p : EProg) : Tree :=
 .callH 81 [.c (.ro tFn p.1), .c (.fnc (.fn0 82) (.ptr 0 0 0 0))] [.cells 39 (Ty.enc tProg p)] (.c (.bool (List.any p.1 (badF p)))) [.cells 39 (Ty.enc tProg p)] [0] <|
 .ite (List.any p.1 (badF p))
 (.ret (.c (.int .i64 3)) [.cells 39 (Ty.enc tProg p)])
 (.ret (.c (.int .i64 0)) [.cells 39 (Ty.enc tProg p)])
theorem codeCheck_r5_R_ok (p : EProg) : aRound Tryd.prog oc14 Tryd.f42 codeCheck_lv 3000 (rg (bodyOf Tryd.f42) 5) (.junk :: .c (.ptr 0 0 0 0) :: J32 (J8 ([]))) [.cells 39 (Ty.enc tProg p)] = codeCheck_r5_R p := by kernel_rfl
theorem codeCheck_r5 (p : EProg) (hl : largeF (toProg p) = false) : Run Tryd.prog 42 (retQ Tryd.prog (.c (.int .i64 (if p.1.any (badF p) = true then 3 else 0)))) (rg (bodyOf Tryd.f42) 5) (.junk :: .c (.ptr 0 0 0 0) :: J32 (J8 ([]))) [.cells 39 (Ty.enc tProg p)] :=
 Run.roundA oc14 codeCheck_lv 3000 Tryd.func42 mixed (codeCheck_r5_R p) (codeCheck_r5_R_ok p) (by
  unfold codeCheck_r5_R
  refine g_callH (conB_fun p.1 p (large_fns (by assumption))) ?_
  refine g_ite (fun h0 => ?_) (fun h0 => ?_)
  ·exact g_reti (by simp only [h0, if_true, if_false, Bool.false_eq_true])
  ·exact g_reti (by simp only [h0, if_true, if_false, Bool.false_eq_true])
  )
theorem codeCheck_fun (p : EProg) : AFun Tryd.prog 42 [.agg (tProg.enc p)] (.c (.int .i64 (codeF p))) :=
 AFun.of oc14 codeCheck_lv 3000 Tryd.func42 mixed rfl (by decide) (Nat.le_of_ble_eq_true rfl) _ (codeCheck_T_ok p) fun hF => by
  unfold codeCheck_T
  refine g_call (large_fun p) (fun h => nomatch h) ?_
  refine g_ite (fun h0 => ?_) (fun h0 => ?_)
  ·exact g_reti (by first | (simp only [codeF, okHead, h0, if_true, if_false, Bool.false_eq_true]; done) | (simp_all [codeF, okHead]; done))
  ·refine g_call (tables_fun p (large_texts (by assumption))) (fun h => nomatch h) ?_
   refine g_iteN (fun h1 => ?_) (fun h1 => ?_)
   ·exact g_reti (by first | (simp only [codeF, okHead, h0, h1, if_true, if_false, Bool.false_eq_true]; done) | (simp_all [codeF, okHead]; done))
   ·refine g_iteD (fun h2 => ?_) (fun h2 => ?_)
    ·exact g_reti (by first | (simp only [codeF, okHead, h0, h1, h2, if_true, if_false, Bool.false_eq_true]; done) | (simp_all [codeF, okHead]; done))
    ·refine g_need (by omega) ?_
     refine g_need (by omega) ?_
     refine g_iteND (fun h3 => ?_) (fun h3 => ?_)
     ·exact g_reti (by first | (simp only [codeF, okHead, h0, h1, h2, h3, if_true, if_false, Bool.false_eq_true]; done) | (simp_all [codeF, okHead]; done))
     ·refine g_need (by omega) ?_
      refine g_need (by omega) ?_
      refine g_iteD (fun h4 => ?_) (fun h4 => ?_)
      ·exact g_reti (by first | (simp only [codeF, okHead, h0, h1, h2, h3, h4, if_true, if_false, Bool.false_eq_true]; done) | (simp_all [codeF, okHead]; done))
      ·refine g_need (by omega) ?_
       refine g_need (by omega) ?_
       refine g_ite (fun h5 => ?_) (fun h5 => ?_)
       ·exact g_reti (by first | (simp only [codeF, okHead, h0, h1, h2, h3, h4, h5, if_true, if_false, Bool.false_eq_true]; done) | (simp_all [codeF, okHead]; done))
       ·refine g_stop (RunN.keep [0] (false :: true :: F32 (F8 ([]))) n0 (by decide) rfl rfl ?_)
        have ht := codeCheck_r5 p h0; have e : codeF p = (if p.1.any (badF p) = true then 3 else 0) := (by first | (exfalso; simp_all; done) | (unfold codeF; rw [if_neg (by simp [h0]), if_pos (by first | (simp only [okHead, h0, h1, h2, h3, h4, h5, if_true, if_false, Bool.false_eq_true]; done) | (simp_all [okHead]; done))])); rw [e]; exact ht

end Go.Proofs.YtefkifdhjabdiaaDoor
namespace Go.Proofs.YtefkifdhjabdiaaDoor
set_option linter.unusedVariables false
set_option linter.unusedSimpArgs false
set_option maxRecDepth 100000
noncomputable def oc8 : Orc where
 pure := fun f args => match f, args with
  | 42, [a0] => match dA tProg a0 with
   | some x0 => some (.c (.int .i64 (codeF x0)))
   | _ => none
  | 43, [a0] => match dA tI a0 with
   | some x0 => some (.tup [.agg (Ty.enc tForm ((ofF x0).1)), .c (.bool ((ofF x0).2))])
   | _ => none
  | 44, [a0, a1, a2, a3] => match dA tChk a0, dA tForm a1, dA tIns a2, dA tI a3 with
   | some x0, some x1, some x2, some x3 => some (.c (.bool (formedF x0 x1 x2 x3)))
   | _, _, _, _ => none
  | 45, [a0] => match dA tExit a0 with
   | some x0 => some (.c (.bool (bareF x0)))
   | _ => none
  | 46, [a0, a1, a2] => match dA tChk a0, dA tExit a1, dA tI a2 with
   | some x0, some x1, some x2 => some (.c (.bool (rightXF x0 x1 x2)))
   | _, _, _ => none
  | _, _ => none
 heap := fun _ _ _ => none
def insF (c : EChk) : Nat → List EIns → Int
 | _, [] => 0
 | i, x :: r => if (ofF x.1).2 = false then 7 else if formedF c (ofF x.1).1 x i = false then 3 else insF c (i + 1) r
def exitsF (c : EChk) (n : Int) : List EExit → Int
 | [] => 0
 | x :: r => if rightXF c x n = false then 3 else exitsF c n r
def turnOk (c : EChk) (t : ETrace) : Bool := (if t.2.2.1 = 0 then bareF t.2.2.2.2.2.1 else true) && (if 0 < t.2.2.1 then (decide (t.2.2.2.2.2.1.1 = t.2.1) && rightXF c t.2.2.2.2.2.1 t.2.2.1) else true)
def backOk (c : EChk) (t : ETrace) : Bool := decide (t.2.2.2.2.2.2.1 = t.2.1) && rightXF c t.2.2.2.2.2.2 (t.2.2.2.1.length : Int)
def headOk (p : EProg) (t : ETrace) : Bool := if t.1 < 0 then false else if (p.1.length : Int) ≤ t.1 then false else if t.2.1 < 0 then false else if ((p.1.getD (Int.toNat t.1) tFn.dflt).2.2.2.2.length : Int) ≤ t.2.1 then false else if t.2.2.1 < 0 then false else if (t.2.2.2.1.length : Int) < t.2.2.1 then false else true
def end3F (c : EChk) (t : ETrace) : Int := exitsF c (t.2.2.2.1.length : Int) t.2.2.2.2.1
def end2F (c : EChk) (t : ETrace) : Int := if backOk c t = true then end3F c t else 3
def end1F (c : EChk) (t : ETrace) : Int := if turnOk c t = true then end2F c t else 3
def thenF (a b : Int) : Int := if a = 0 then b else a
def bodyF (c : EChk) (t : ETrace) : Int := thenF (insF c 0 t.2.2.2.1) (end1F c t)
def sizeOk (t : ETrace) : Bool := if 300 < (t.2.2.2.1.length : Int) then false else if 200 < (t.2.2.2.2.1.length : Int) then false else true
def check4F (p : EProg) (t : ETrace) : Int := if sizeOk t = true then (if headOk p t = true then bodyF (p.1.getD (Int.toNat t.1) tFn.dflt, t) t else 3) else 2
noncomputable def checkF (p : EProg) (t : ETrace) : Int := if codeF p = 0 then check4F p t else codeF p
def check_lv : LV := ⟨(F2 (true :: true :: F2 (true :: F32 (F32 (F8 (F2 (true :: true :: true :: F32 (F32 (F2 (false :: true :: true :: true :: F8 (F2 (false :: [])))))))))))), [4, 8, 18, 21, 23]⟩
noncomputable def check_T (p : EProg) (t : ETrace) : Tree :=
 .call 42 [.agg (Ty.enc tProg p)] false (.c (.int .i64 (codeF p))) <|
 .ite ((!(decide (codeF p = 0))))
 (.ret (.c (.int .i64 (codeF p))) [.cells 39 (Ty.enc tProg p), .cells 29 (Ty.enc tTrace t)])
 (.stop (rg (bodyOf Tryd.f17) 4) (J2 (.c (.ptr 0 0 0 0) :: .c (.ptr 1 0 0 0) :: J32 (J32 (J32 (J32 (J32 (.junk :: []))))))) [.cells 39 (Ty.enc tProg p), .cells 29 (Ty.enc tTrace t)])
theorem check_T_ok (p : EProg) (t : ETrace) : aRun Tryd.prog oc8 Tryd.f17 check_lv 3000 [.code (bodyOf Tryd.f17)] ([.agg (tProg.enc p), .agg (tTrace.enc t)] ++ List.replicate (Func.ntmps Tryd.f17 - 2) .junk) [] = check_T p t := by kernel_rfl
noncomputable def check_l1_R (p : EProg) (t : ETrace) (i : Nat) : Tree :=
 .ite (decide (((i : Nat) : Int) < (t.2.2.2.2.1.length : Int)))
 (.need ((0 : Int) ≤ ((i : Nat) : Int) ∧ (((i : Nat) : Int) : Int) < (t.2.2.2.2.1.length : Int)) <|
  .need (i < t.2.2.2.2.1.length) <|
  .call 46 [.agg (Ty.enc tChk (p.1.getD (Int.toNat t.1) tFn.dflt, t)), .agg [.int .i64 (t.2.2.2.2.1.getD i tExit.dflt).1, .int .i64 (t.2.2.2.2.1.getD i tExit.dflt).2.1, .ro tVal (t.2.2.2.2.1.getD i tExit.dflt).2.2.1, .ro tMake (t.2.2.2.2.1.getD i tExit.dflt).2.2.2], .c (.int .i64 (t.2.2.2.1.length : Int))] false (.c (.bool (rightXF ((p.1.getD (Int.toNat t.1) tFn.dflt), t) (t.2.2.2.2.1.getD i tExit.dflt) (t.2.2.2.1.length : Int)))) <|
  .ite ((!(rightXF ((p.1.getD (Int.toNat t.1) tFn.dflt), t) (t.2.2.2.2.1.getD i tExit.dflt) (t.2.2.2.1.length : Int))))
  (.ret (.c (.int .i64 3)) [.cells 29 (Ty.enc tTrace t), .cells 86 (Ty.enc tChk (p.1.getD (Int.toNat t.1) tFn.dflt, t)), .cells 27 [.int .i64 (t.2.2.2.2.1.getD i tExit.dflt).1, .int .i64 (t.2.2.2.2.1.getD i tExit.dflt).2.1, .ro tVal (t.2.2.2.2.1.getD i tExit.dflt).2.2.1, .ro tMake (t.2.2.2.2.1.getD i tExit.dflt).2.2.2]])
  (.need (inR .i64 (((i : Nat) : Int) + 1)) <|
  .stop (lp (bodyOf Tryd.f17) 1) (J2 (.junk :: .c (.ptr 0 0 0 0) :: J2 (.c (.ptr 1 0 0 0) :: J32 (J32 (J32 (J32 (J16 (.c (.ro tExit t.2.2.2.2.1) :: .c (.int .i64 (t.2.2.2.2.1.length : Int)) :: .c (.int .i64 (((i : Nat) : Int) + 1)) :: J8 (J2 (.junk :: [])))))))))) [.cells 29 (Ty.enc tTrace t), .cells 86 (Ty.enc tChk (p.1.getD (Int.toNat t.1) tFn.dflt, t)), .cells 27 [.int .i64 (t.2.2.2.2.1.getD i tExit.dflt).1, .int .i64 (t.2.2.2.2.1.getD i tExit.dflt).2.1, .ro tVal (t.2.2.2.2.1.getD i tExit.dflt).2.2.1, .ro tMake (t.2.2.2.2.1.getD i tExit.dflt).2.2.2]]))
 (.ret (.c (.int .i64 0)) [.cells 29 (Ty.enc tTrace t), .cells 86 (Ty.enc tChk (p.1.getD (Int.toNat t.1) tFn.dflt, t))])
theorem check_l1_R_ok (p : EProg) (t : ETrace) (i : Nat) : aRound Tryd.prog oc8 Tryd.f17 check_lv 3000 (lp (bodyOf Tryd.f17) 1) (J2 (.junk :: .c (.ptr 0 0 0 0) :: J2 (.c (.ptr 1 0 0 0) :: J32 (J32 (J32 (J32 (J16 (.c (.ro tExit t.2.2.2.2.1) :: .c (.int .i64 (t.2.2.2.2.1.length : Int)) :: .c (.int .i64 ((i : Nat) : Int)) :: J8 (J2 (.junk :: [])))))))))) [.cells 29 (Ty.enc tTrace t), .cells 86 (Ty.enc tChk (p.1.getD (Int.toNat t.1) tFn.dflt, t))] = check_l1_R p t i := by kernel_rfl
noncomputable def check_r23_R (p : EProg) (t : ETrace) : Tree :=
 .stop (lp (bodyOf Tryd.f17) 1) (J2 (.junk :: .c (.ptr 0 0 0 0) :: J2 (.c (.ptr 1 0 0 0) :: J32 (J32 (J32 (J32 (J16 (.c (.ro tExit t.2.2.2.2.1) :: .c (.int .i64 (t.2.2.2.2.1.length : Int)) :: .c (.int .i64 0) :: J8 (J2 (.junk :: [])))))))))) [.cells 29 (Ty.enc tTrace t), .cells 86 (Ty.enc tChk (p.1.getD (Int.toNat t.1) tFn.dflt, t))]
abbrev bCe4 : List AV := (J2 (.junk :: .c (.ptr 0 0 0 0) :: J2 (.c (.ptr 1 0 0 0) :: J32 (J32 (J32 (J32 (J16 (J8 (J4 (J2 ([])))))))))))
theorem check_r23_R_ok (p : EProg) (t : ETrace) : aRound Tryd.prog oc8 Tryd.f17 check_lv 3000 (rg (bodyOf Tryd.f17) 23) bCe4 [.cells 29 (Ty.enc tTrace t), .cells 86 (Ty.enc tChk (p.1.getD (Int.toNat t.1) tFn.dflt, t))] = check_r23_R p t := by kernel_rfl
noncomputable def check_r21_R (p : EProg) (t : ETrace) : Tree :=
 .ite ((!(decide (t.2.2.2.2.2.2.1 = t.2.1))))
 (.ret (.c (.int .i64 3)) [.cells 29 (Ty.enc tTrace t), .cells 86 (Ty.enc tChk (p.1.getD (Int.toNat t.1) tFn.dflt, t))])
 (.call 46 [.agg (Ty.enc tChk (p.1.getD (Int.toNat t.1) tFn.dflt, t)), .agg [.int .i64 t.2.2.2.2.2.2.1, .int .i64 t.2.2.2.2.2.2.2.1, .ro tVal t.2.2.2.2.2.2.2.2.1, .ro tMake t.2.2.2.2.2.2.2.2.2], .c (.int .i64 (t.2.2.2.1.length : Int))] false (.c (.bool (rightXF ((p.1.getD (Int.toNat t.1) tFn.dflt), t) t.2.2.2.2.2.2 (t.2.2.2.1.length : Int)))) <|
  .ite ((!(rightXF ((p.1.getD (Int.toNat t.1) tFn.dflt), t) t.2.2.2.2.2.2 (t.2.2.2.1.length : Int))))
  (.ret (.c (.int .i64 3)) [.cells 29 (Ty.enc tTrace t), .cells 86 (Ty.enc tChk (p.1.getD (Int.toNat t.1) tFn.dflt, t))])
  (.stop (rg (bodyOf Tryd.f17) 23) bCe4 [.cells 29 (Ty.enc tTrace t), .cells 86 (Ty.enc tChk (p.1.getD (Int.toNat t.1) tFn.dflt, t))]))
theorem check_r21_R_ok (p : EProg) (t : ETrace) : aRound Tryd.prog oc8 Tryd.f17 check_lv 3000 (rg (bodyOf Tryd.f17) 21) bCe4 [.cells 29 (Ty.enc tTrace t), .cells 86 (Ty.enc tChk (p.1.getD (Int.toNat t.1) tFn.dflt, t))] = check_r21_R p t := by kernel_rfl
noncomputable def check_r18_R (p : EProg) (t : ETrace) : Tree :=
 .ite (decide (t.2.2.1 = 0))
 (.call 45 [.agg [.int .i64 t.2.2.2.2.2.1.1, .int .i64 t.2.2.2.2.2.1.2.1, .ro tVal t.2.2.2.2.2.1.2.2.1, .ro tMake t.2.2.2.2.2.1.2.2.2]] false (.c (.bool (bareF t.2.2.2.2.2.1))) <|
  .ite ((!(bareF t.2.2.2.2.2.1)))
  (.ite ((!(bareF t.2.2.2.2.2.1)))
  (.ret (.c (.int .i64 3)) [.cells 29 (Ty.enc tTrace t), .cells 86 (Ty.enc tChk (p.1.getD (Int.toNat t.1) tFn.dflt, t))])
  (.stop (rg (bodyOf Tryd.f17) 21) bCe4 [.cells 29 (Ty.enc tTrace t), .cells 86 (Ty.enc tChk (p.1.getD (Int.toNat t.1) tFn.dflt, t))]))
  (.ite (decide ((0 : Int) < t.2.2.1))
  (.ite ((!(decide (t.2.2.2.2.2.1.1 = t.2.1))))
   (.ret (.c (.int .i64 3)) [.cells 29 (Ty.enc tTrace t), .cells 86 (Ty.enc tChk (p.1.getD (Int.toNat t.1) tFn.dflt, t))])
   (.call 46 [.agg (Ty.enc tChk (p.1.getD (Int.toNat t.1) tFn.dflt, t)), .agg [.int .i64 t.2.2.2.2.2.1.1, .int .i64 t.2.2.2.2.2.1.2.1, .ro tVal t.2.2.2.2.2.1.2.2.1, .ro tMake t.2.2.2.2.2.1.2.2.2], .c (.int .i64 t.2.2.1)] false (.c (.bool (rightXF ((p.1.getD (Int.toNat t.1) tFn.dflt), t) t.2.2.2.2.2.1 t.2.2.1))) <|
   .ite ((!(rightXF ((p.1.getD (Int.toNat t.1) tFn.dflt), t) t.2.2.2.2.2.1 t.2.2.1)))
   (.ret (.c (.int .i64 3)) [.cells 29 (Ty.enc tTrace t), .cells 86 (Ty.enc tChk (p.1.getD (Int.toNat t.1) tFn.dflt, t))])
   (.stop (rg (bodyOf Tryd.f17) 21) bCe4 [.cells 29 (Ty.enc tTrace t), .cells 86 (Ty.enc tChk (p.1.getD (Int.toNat t.1) tFn.dflt, t))])))
  (.stop (rg (bodyOf Tryd.f17) 21) bCe4 [.cells 29 (Ty.enc tTrace t), .cells 86 (Ty.enc tChk (p.1.getD (Int.toNat t.1) tFn.dflt, t))])))
 (.ite (decide ((0 : Int) < t.2.2.1))
  (.ite ((!(decide (t.2.2.2.2.2.1.1 = t.2.1))))
  (.ret (.c (.int .i64 3)) [.cells 29 (Ty.enc tTrace t), .cells 86 (Ty.enc tChk (p.1.getD (Int.toNat t.1) tFn.dflt, t))])
  (.call 46 [.agg (Ty.enc tChk (p.1.getD (Int.toNat t.1) tFn.dflt, t)), .agg [.int .i64 t.2.2.2.2.2.1.1, .int .i64 t.2.2.2.2.2.1.2.1, .ro tVal t.2.2.2.2.2.1.2.2.1, .ro tMake t.2.2.2.2.2.1.2.2.2], .c (.int .i64 t.2.2.1)] false (.c (.bool (rightXF ((p.1.getD (Int.toNat t.1) tFn.dflt), t) t.2.2.2.2.2.1 t.2.2.1))) <|
   .ite ((!(rightXF ((p.1.getD (Int.toNat t.1) tFn.dflt), t) t.2.2.2.2.2.1 t.2.2.1)))
   (.ret (.c (.int .i64 3)) [.cells 29 (Ty.enc tTrace t), .cells 86 (Ty.enc tChk (p.1.getD (Int.toNat t.1) tFn.dflt, t))])
   (.stop (rg (bodyOf Tryd.f17) 21) bCe4 [.cells 29 (Ty.enc tTrace t), .cells 86 (Ty.enc tChk (p.1.getD (Int.toNat t.1) tFn.dflt, t))])))
  (.stop (rg (bodyOf Tryd.f17) 21) bCe4 [.cells 29 (Ty.enc tTrace t), .cells 86 (Ty.enc tChk (p.1.getD (Int.toNat t.1) tFn.dflt, t))]))
theorem check_r18_R_ok (p : EProg) (t : ETrace) : aRound Tryd.prog oc8 Tryd.f17 check_lv 3000 (rg (bodyOf Tryd.f17) 18) bCe4 [.cells 29 (Ty.enc tTrace t), .cells 86 (Ty.enc tChk (p.1.getD (Int.toNat t.1) tFn.dflt, t))] = check_r18_R p t := by kernel_rfl
abbrev bCe0 (t : ETrace) (i : Nat) : AB := .cells 46 [.int .i64 (t.2.2.2.1.getD i tIns.dflt).1, .int .i64 (t.2.2.2.1.getD i tIns.dflt).2.1, .int .i64 (t.2.2.2.1.getD i tIns.dflt).2.2.1, .int .i64 (t.2.2.2.1.getD i tIns.dflt).2.2.2.1, .int .i64 (t.2.2.2.1.getD i tIns.dflt).2.2.2.2.1, .int .i64 (t.2.2.2.1.getD i tIns.dflt).2.2.2.2.2.1, .int .i64 (t.2.2.2.1.getD i tIns.dflt).2.2.2.2.2.2.1, .int .i64 (t.2.2.2.1.getD i tIns.dflt).2.2.2.2.2.2.2]
abbrev bCe1 (t : ETrace) (i : Nat) : AB := .cells 88 [.int .i64 (ofF (t.2.2.2.1.getD i tIns.dflt).1).1.1, .int .i64 (ofF (t.2.2.2.1.getD i tIns.dflt).1).1.2.1, .int .i64 (ofF (t.2.2.2.1.getD i tIns.dflt).1).1.2.2.1, .bool (ofF (t.2.2.2.1.getD i tIns.dflt).1).1.2.2.2.1, .bool (ofF (t.2.2.2.1.getD i tIns.dflt).1).1.2.2.2.2.1, .int .i64 (ofF (t.2.2.2.1.getD i tIns.dflt).1).1.2.2.2.2.2]
abbrev bCe2 (t : ETrace) (i : Nat) : List AV := (J2 (.junk :: .c (.ptr 0 0 0 0) :: J2 (.c (.ptr 1 0 0 0) :: J32 (J32 (J8 (J2 (.c (.ro tIns t.2.2.2.1) :: .c (.int .i64 (t.2.2.2.1.length : Int)) :: .c (.int .i64 ((i : Nat) : Int)) :: J32 (J32 (J16 (.junk :: []))))))))))
noncomputable def check_l0_R (p : EProg) (t : ETrace) (i : Nat) : Tree :=
 .ite (decide (((i : Nat) : Int) < (t.2.2.2.1.length : Int)))
 (.need ((0 : Int) ≤ ((i : Nat) : Int) ∧ (((i : Nat) : Int) : Int) < (t.2.2.2.1.length : Int)) <|
  .need (i < t.2.2.2.1.length) <|
  .call 43 [.c (.int .i64 (t.2.2.2.1.getD i tIns.dflt).1)] false (.tup [.agg [.int .i64 (ofF (t.2.2.2.1.getD i tIns.dflt).1).1.1, .int .i64 (ofF (t.2.2.2.1.getD i tIns.dflt).1).1.2.1, .int .i64 (ofF (t.2.2.2.1.getD i tIns.dflt).1).1.2.2.1, .bool (ofF (t.2.2.2.1.getD i tIns.dflt).1).1.2.2.2.1, .bool (ofF (t.2.2.2.1.getD i tIns.dflt).1).1.2.2.2.2.1, .int .i64 (ofF (t.2.2.2.1.getD i tIns.dflt).1).1.2.2.2.2.2], .c (.bool (ofF (t.2.2.2.1.getD i tIns.dflt).1).2)]) <|
  .ite ((!(ofF (t.2.2.2.1.getD i tIns.dflt).1).2))
  (.ret (.c (.int .i64 7)) [.cells 29 (Ty.enc tTrace t), .cells 86 (Ty.enc tChk (p.1.getD (Int.toNat t.1) tFn.dflt, t)), (bCe0 t i), (bCe1 t i)])
  (.call 44 [.agg (Ty.enc tChk (p.1.getD (Int.toNat t.1) tFn.dflt, t)), .agg [.int .i64 (ofF (t.2.2.2.1.getD i tIns.dflt).1).1.1, .int .i64 (ofF (t.2.2.2.1.getD i tIns.dflt).1).1.2.1, .int .i64 (ofF (t.2.2.2.1.getD i tIns.dflt).1).1.2.2.1, .bool (ofF (t.2.2.2.1.getD i tIns.dflt).1).1.2.2.2.1, .bool (ofF (t.2.2.2.1.getD i tIns.dflt).1).1.2.2.2.2.1, .int .i64 (ofF (t.2.2.2.1.getD i tIns.dflt).1).1.2.2.2.2.2], .agg [.int .i64 (t.2.2.2.1.getD i tIns.dflt).1, .int .i64 (t.2.2.2.1.getD i tIns.dflt).2.1, .int .i64 (t.2.2.2.1.getD i tIns.dflt).2.2.1, .int .i64 (t.2.2.2.1.getD i tIns.dflt).2.2.2.1, .int .i64 (t.2.2.2.1.getD i tIns.dflt).2.2.2.2.1, .int .i64 (t.2.2.2.1.getD i tIns.dflt).2.2.2.2.2.1, .int .i64 (t.2.2.2.1.getD i tIns.dflt).2.2.2.2.2.2.1, .int .i64 (t.2.2.2.1.getD i tIns.dflt).2.2.2.2.2.2.2], .c (.int .i64 ((i : Nat) : Int))] false (.c (.bool (formedF ((p.1.getD (Int.toNat t.1) tFn.dflt), t) (ofF (t.2.2.2.1.getD i tIns.dflt).1).1 (t.2.2.2.1.getD i tIns.dflt) ((i : Nat) : Int)))) <|
  .ite ((!(formedF ((p.1.getD (Int.toNat t.1) tFn.dflt), t) (ofF (t.2.2.2.1.getD i tIns.dflt).1).1 (t.2.2.2.1.getD i tIns.dflt) ((i : Nat) : Int))))
  (.ret (.c (.int .i64 3)) [.cells 29 (Ty.enc tTrace t), .cells 86 (Ty.enc tChk (p.1.getD (Int.toNat t.1) tFn.dflt, t)), (bCe0 t i), (bCe1 t i)])
  (.need (inR .i64 (((i : Nat) : Int) + 1)) <|
   .stop (lp (bodyOf Tryd.f17) 0) (J2 (.junk :: .c (.ptr 0 0 0 0) :: J2 (.c (.ptr 1 0 0 0) :: J32 (J32 (J8 (J2 (.c (.ro tIns t.2.2.2.1) :: .c (.int .i64 (t.2.2.2.1.length : Int)) :: .c (.int .i64 (((i : Nat) : Int) + 1)) :: J32 (J32 (J16 (.junk :: [])))))))))) [.cells 29 (Ty.enc tTrace t), .cells 86 (Ty.enc tChk (p.1.getD (Int.toNat t.1) tFn.dflt, t)), (bCe0 t i), (bCe1 t i)])))
 (.stop (rg (bodyOf Tryd.f17) 18) (bCe2 t i) [.cells 29 (Ty.enc tTrace t), .cells 86 (Ty.enc tChk (p.1.getD (Int.toNat t.1) tFn.dflt, t))])
theorem check_l0_R_ok (p : EProg) (t : ETrace) (i : Nat) : aRound Tryd.prog oc8 Tryd.f17 check_lv 3000 (lp (bodyOf Tryd.f17) 0) (bCe2 t i) [.cells 29 (Ty.enc tTrace t), .cells 86 (Ty.enc tChk (p.1.getD (Int.toNat t.1) tFn.dflt, t))] = check_l0_R p t i := by kernel_rfl
noncomputable def check_r8_R (p : EProg) (t : ETrace) : Tree :=
 .need ((0 : Int) ≤ t.1 ∧ (t.1 : Int) < (p.1.length : Int)) <|
 .need ((Int.toNat t.1) < p.1.length) <|
 .stop (lp (bodyOf Tryd.f17) 0) (J2 (.c (.ptr 0 0 0 0) :: .c (.ptr 1 0 0 0) :: J2 (.c (.ptr 2 0 0 0) :: J32 (J32 (J8 (J2 (.c (.ro tIns t.2.2.2.1) :: .c (.int .i64 (t.2.2.2.1.length : Int)) :: .c (.int .i64 0) :: J32 (J32 (J16 (.junk :: [])))))))))) [.cells 39 (Ty.enc tProg p), .cells 29 (Ty.enc tTrace t), .cells 86 (Ty.enc tChk (p.1.getD (Int.toNat t.1) tFn.dflt, t))]
theorem check_r8_R_ok (p : EProg) (t : ETrace) : aRound Tryd.prog oc8 Tryd.f17 check_lv 3000 (rg (bodyOf Tryd.f17) 8) (J2 (.c (.ptr 0 0 0 0) :: .c (.ptr 1 0 0 0) :: J32 (J32 (J32 (J32 (J32 (.junk :: []))))))) [.cells 39 (Ty.enc tProg p), .cells 29 (Ty.enc tTrace t)] = check_r8_R p t := by kernel_rfl
noncomputable def check_r4_R (p : EProg) (t : ETrace) : Tree :=
 .ite (decide ((300 : Int) < (t.2.2.2.1.length : Int)))
 (.ret (.c (.int .i64 2)) [.cells 39 (Ty.enc tProg p), .cells 29 (Ty.enc tTrace t)])
 (.ite (decide ((200 : Int) < (t.2.2.2.2.1.length : Int)))
  (.ret (.c (.int .i64 2)) [.cells 39 (Ty.enc tProg p), .cells 29 (Ty.enc tTrace t)])
  (.ite (decide (t.1 < 0))
  (.ret (.c (.int .i64 3)) [.cells 39 (Ty.enc tProg p), .cells 29 (Ty.enc tTrace t)])
  (.ite (decide ((p.1.length : Int) ≤ t.1))
   (.ret (.c (.int .i64 3)) [.cells 39 (Ty.enc tProg p), .cells 29 (Ty.enc tTrace t)])
   (.ite (decide (t.2.1 < 0))
   (.ret (.c (.int .i64 3)) [.cells 39 (Ty.enc tProg p), .cells 29 (Ty.enc tTrace t)])
   (.need ((0 : Int) ≤ t.1 ∧ (t.1 : Int) < (p.1.length : Int)) <|
    .need ((Int.toNat t.1) < p.1.length) <|
    .ite (decide (((p.1.getD (Int.toNat t.1) tFn.dflt).2.2.2.2.length : Int) ≤ t.2.1))
    (.ret (.c (.int .i64 3)) [.cells 39 (Ty.enc tProg p), .cells 29 (Ty.enc tTrace t)])
    (.ite (decide (t.2.2.1 < 0))
    (.ret (.c (.int .i64 3)) [.cells 39 (Ty.enc tProg p), .cells 29 (Ty.enc tTrace t)])
    (.ite (decide ((t.2.2.2.1.length : Int) < t.2.2.1))
     (.ret (.c (.int .i64 3)) [.cells 39 (Ty.enc tProg p), .cells 29 (Ty.enc tTrace t)])
     (.stop (rg (bodyOf Tryd.f17) 8) (J2 (.c (.ptr 0 0 0 0) :: .c (.ptr 1 0 0 0) :: J32 (J32 (J32 (J32 (J32 (.junk :: []))))))) [.cells 39 (Ty.enc tProg p), .cells 29 (Ty.enc tTrace t)]))))))))
theorem check_r4_R_ok (p : EProg) (t : ETrace) : aRound Tryd.prog oc8 Tryd.f17 check_lv 3000 (rg (bodyOf Tryd.f17) 4) (J2 (.c (.ptr 0 0 0 0) :: .c (.ptr 1 0 0 0) :: J32 (J32 (J32 (J32 (J32 (.junk :: []))))))) [.cells 39 (Ty.enc tProg p), .cells 29 (Ty.enc tTrace t)] = check_r4_R p t := by kernel_rfl
theorem check_l1 (p : EProg) (t : ETrace) (i : Nat) (he : t.2.2.2.2.1.length ≤ 200) : Run Tryd.prog 17 (retQ Tryd.prog (.c (.int .i64 (exitsF (p.1.getD (Int.toNat t.1) tFn.dflt, t) (t.2.2.2.1.length : Int) (t.2.2.2.2.1.drop i))))) (lp (bodyOf Tryd.f17) 1) (J2 (.junk :: .c (.ptr 0 0 0 0) :: J2 (.c (.ptr 1 0 0 0) :: J32 (J32 (J32 (J32 (J16 (.c (.ro tExit t.2.2.2.2.1) :: .c (.int .i64 (t.2.2.2.2.1.length : Int)) :: .c (.int .i64 ((i : Nat) : Int)) :: J8 (J2 (.junk :: [])))))))))) [.cells 29 (Ty.enc tTrace t), .cells 86 (Ty.enc tChk (p.1.getD (Int.toNat t.1) tFn.dflt, t))] :=
 Run.roundA oc8 check_lv 3000 Tryd.func17 mixed (check_l1_R p t i) (check_l1_R_ok p t i) (by
  unfold check_l1_R
  refine g_iteD (fun h0 => ?_) (fun h0 => ?_)
  ·refine g_need (by omega) ?_
   refine g_need (by omega) ?_
   refine g_call (rightX_fun ((p.1.getD (Int.toNat t.1) tFn.dflt), t) (t.2.2.2.2.1.getD i tExit.dflt) (t.2.2.2.1.length : Int)) (fun h => nomatch h) ?_
   refine g_iteN (fun h1 => ?_) (fun h1 => ?_)
   ·exact g_reti (by first | (rw [dropCons (α := EExit) (Ty.dflt tExit) (by omega)]; simp only [exitsF, h0, h1, if_true, if_false]; done) | (rw [List.drop_eq_nil_of_le (by omega)]; rfl))
   ·refine g_need (i64_iff.2 (by omega)) ?_
    refine g_stop (RunN.keep [0, 1] (F2 (false :: true :: F2 (true :: F32 (F32 (F32 (F32 (F16 (true :: true :: true :: F8 (F2 (false :: [])))))))))) n0 (by decide) rfl rfl ?_)
    have := check_l1 p t (i + 1) he; rw [dropCons (α := EExit) (Ty.dflt tExit) (by omega)]; simp only [exitsF, h0, h1, if_true, if_false, reduceCtorEq]; exact this
  ·exact g_reti (by first | (rw [dropCons (α := EExit) (Ty.dflt tExit) (by omega)]; simp only [exitsF, h0, if_true, if_false]; done) | (rw [List.drop_eq_nil_of_le (by omega)]; rfl))
  )
 termination_by t.2.2.2.2.1.length - i
 decreasing_by all_goals omega
theorem check_r23 (p : EProg) (t : ETrace) (he : t.2.2.2.2.1.length ≤ 200) : Run Tryd.prog 17 (retQ Tryd.prog (.c (.int .i64 (end3F (p.1.getD (Int.toNat t.1) tFn.dflt, t) t)))) (rg (bodyOf Tryd.f17) 23) bCe4 [.cells 29 (Ty.enc tTrace t), .cells 86 (Ty.enc tChk (p.1.getD (Int.toNat t.1) tFn.dflt, t))] :=
 Run.roundA oc8 check_lv 3000 Tryd.func17 mixed (check_r23_R p t) (check_r23_R_ok p t) (by
  unfold check_r23_R
  refine g_stop (RunN.keep [0, 1] (F2 (false :: true :: F2 (true :: F32 (F32 (F32 (F32 (F16 (true :: true :: true :: F8 (F2 (false :: [])))))))))) n0 (by decide) rfl rfl ?_)
  have ht := check_l1 p t 0 he; exact ht
  )
theorem check_r21 (p : EProg) (t : ETrace) (he : t.2.2.2.2.1.length ≤ 200) : Run Tryd.prog 17 (retQ Tryd.prog (.c (.int .i64 (end2F (p.1.getD (Int.toNat t.1) tFn.dflt, t) t)))) (rg (bodyOf Tryd.f17) 21) bCe4 [.cells 29 (Ty.enc tTrace t), .cells 86 (Ty.enc tChk (p.1.getD (Int.toNat t.1) tFn.dflt, t))] :=
 Run.roundA oc8 check_lv 3000 Tryd.func17 mixed (check_r21_R p t) (check_r21_R_ok p t) (by
  unfold check_r21_R
  refine g_iteND (fun h0 => ?_) (fun h0 => ?_)
  ·exact g_reti (by first | (simp only [end2F, backOk, h0, if_true, if_false, Bool.false_eq_true, reduceCtorEq, Int.reduceEq, Int.reduceNeg, decide_true, decide_false, Bool.not_true, Bool.not_false, Bool.and_true, Bool.true_and, Bool.and_false, Bool.false_and]; done) | (simp_all [end2F, backOk]; done))
  ·refine g_call (rightX_fun ((p.1.getD (Int.toNat t.1) tFn.dflt), t) t.2.2.2.2.2.2 (t.2.2.2.1.length : Int)) (fun h => nomatch h) ?_
   refine g_iteN (fun h1 => ?_) (fun h1 => ?_)
   ·exact g_reti (by first | (simp only [end2F, backOk, h0, h1, if_true, if_false, Bool.false_eq_true, reduceCtorEq, Int.reduceEq, Int.reduceNeg, decide_true, decide_false, Bool.not_true, Bool.not_false, Bool.and_true, Bool.true_and, Bool.and_false, Bool.false_and]; done) | (simp_all [end2F, backOk]; done))
   ·refine g_stop (RunN.keep [0, 1] (F2 (false :: true :: F2 (true :: F32 (F32 (F32 (F32 (F16 (F8 (F4 (F2 ([]))))))))))) n0 (by decide) rfl rfl ?_)
    have ht := check_r23 p t he; first | (simp only [end2F, backOk, h0, h1, if_true, if_false, Bool.false_eq_true, reduceCtorEq, Int.reduceEq, Int.reduceNeg, decide_true, decide_false, Bool.not_true, Bool.not_false, Bool.and_true, Bool.true_and, Bool.and_false, Bool.false_and]; exact ht) | (exfalso; simp_all; done) | (exfalso; omega)
  )
theorem check_r18 (p : EProg) (t : ETrace) (he : t.2.2.2.2.1.length ≤ 200) : Run Tryd.prog 17 (retQ Tryd.prog (.c (.int .i64 (end1F (p.1.getD (Int.toNat t.1) tFn.dflt, t) t)))) (rg (bodyOf Tryd.f17) 18) bCe4 [.cells 29 (Ty.enc tTrace t), .cells 86 (Ty.enc tChk (p.1.getD (Int.toNat t.1) tFn.dflt, t))] :=
 Run.roundA oc8 check_lv 3000 Tryd.func17 mixed (check_r18_R p t) (check_r18_R_ok p t) (by
  unfold check_r18_R
  refine g_iteD (fun h0 => ?_) (fun h0 => ?_)
  ·refine g_call (bare_fun t.2.2.2.2.2.1) (fun h => nomatch h) ?_
   refine g_iteN (fun h1 => ?_) (fun h1 => ?_)
   ·refine g_iteN (fun h2 => ?_) (fun h2 => ?_)
    ·exact g_reti (by first | (simp only [end1F, turnOk, h0, h1, h2, if_true, if_false, Bool.false_eq_true, reduceCtorEq, Int.reduceEq, Int.reduceNeg, decide_true, decide_false, Bool.not_true, Bool.not_false, Bool.and_true, Bool.true_and, Bool.and_false, Bool.false_and]; done) | (simp_all [end1F, turnOk]; done))
    ·refine g_stop (RunN.keep [0, 1] (F2 (false :: true :: F2 (true :: F32 (F32 (F32 (F32 (F16 (F8 (F4 (F2 ([]))))))))))) n0 (by decide) rfl rfl ?_)
     have ht := check_r21 p t he; first | (simp only [end1F, turnOk, h0, h1, h2, if_true, if_false, Bool.false_eq_true, reduceCtorEq, Int.reduceEq, Int.reduceNeg, decide_true, decide_false, Bool.not_true, Bool.not_false, Bool.and_true, Bool.true_and, Bool.and_false, Bool.false_and]; exact ht) | (exfalso; simp_all; done) | (exfalso; omega)
   ·refine g_iteD (fun h2 => ?_) (fun h2 => ?_)
    ·refine g_iteND (fun h3 => ?_) (fun h3 => ?_)
     ·exact g_reti (by first | (simp only [end1F, turnOk, h0, h1, h2, h3, if_true, if_false, Bool.false_eq_true, reduceCtorEq, Int.reduceEq, Int.reduceNeg, decide_true, decide_false, Bool.not_true, Bool.not_false, Bool.and_true, Bool.true_and, Bool.and_false, Bool.false_and]; done) | (simp_all [end1F, turnOk]; done))
     ·refine g_call (rightX_fun ((p.1.getD (Int.toNat t.1) tFn.dflt), t) t.2.2.2.2.2.1 t.2.2.1) (fun h => nomatch h) ?_
      refine g_iteN (fun h4 => ?_) (fun h4 => ?_)
      ·exact g_reti (by first | (simp only [end1F, turnOk, h0, h1, h2, h3, h4, if_true, if_false, Bool.false_eq_true, reduceCtorEq, Int.reduceEq, Int.reduceNeg, decide_true, decide_false, Bool.not_true, Bool.not_false, Bool.and_true, Bool.true_and, Bool.and_false, Bool.false_and]; done) | (simp_all [end1F, turnOk]; done))
      ·refine g_stop (RunN.keep [0, 1] (F2 (false :: true :: F2 (true :: F32 (F32 (F32 (F32 (F16 (F8 (F4 (F2 ([]))))))))))) n0 (by decide) rfl rfl ?_)
       have ht := check_r21 p t he; first | (simp only [end1F, turnOk, h0, h1, h2, h3, h4, if_true, if_false, Bool.false_eq_true, reduceCtorEq, Int.reduceEq, Int.reduceNeg, decide_true, decide_false, Bool.not_true, Bool.not_false, Bool.and_true, Bool.true_and, Bool.and_false, Bool.false_and]; exact ht) | (exfalso; simp_all; done) | (exfalso; omega)
    ·refine g_stop (RunN.keep [0, 1] (F2 (false :: true :: F2 (true :: F32 (F32 (F32 (F32 (F16 (F8 (F4 (F2 ([]))))))))))) n0 (by decide) rfl rfl ?_)
     have ht := check_r21 p t he; first | (simp only [end1F, turnOk, h0, h1, h2, if_true, if_false, Bool.false_eq_true, reduceCtorEq, Int.reduceEq, Int.reduceNeg, decide_true, decide_false, Bool.not_true, Bool.not_false, Bool.and_true, Bool.true_and, Bool.and_false, Bool.false_and]; exact ht) | (exfalso; simp_all; done) | (exfalso; omega)
  ·refine g_iteD (fun h1 => ?_) (fun h1 => ?_)
   ·refine g_iteND (fun h2 => ?_) (fun h2 => ?_)
    ·exact g_reti (by first | (simp only [end1F, turnOk, h0, h1, h2, if_true, if_false, Bool.false_eq_true, reduceCtorEq, Int.reduceEq, Int.reduceNeg, decide_true, decide_false, Bool.not_true, Bool.not_false, Bool.and_true, Bool.true_and, Bool.and_false, Bool.false_and]; done) | (simp_all [end1F, turnOk]; done))
    ·refine g_call (rightX_fun ((p.1.getD (Int.toNat t.1) tFn.dflt), t) t.2.2.2.2.2.1 t.2.2.1) (fun h => nomatch h) ?_
     refine g_iteN (fun h3 => ?_) (fun h3 => ?_)
     ·exact g_reti (by first | (simp only [end1F, turnOk, h0, h1, h2, h3, if_true, if_false, Bool.false_eq_true, reduceCtorEq, Int.reduceEq, Int.reduceNeg, decide_true, decide_false, Bool.not_true, Bool.not_false, Bool.and_true, Bool.true_and, Bool.and_false, Bool.false_and]; done) | (simp_all [end1F, turnOk]; done))
     ·refine g_stop (RunN.keep [0, 1] (F2 (false :: true :: F2 (true :: F32 (F32 (F32 (F32 (F16 (F8 (F4 (F2 ([]))))))))))) n0 (by decide) rfl rfl ?_)
      have ht := check_r21 p t he; first | (simp only [end1F, turnOk, h0, h1, h2, h3, if_true, if_false, Bool.false_eq_true, reduceCtorEq, Int.reduceEq, Int.reduceNeg, decide_true, decide_false, Bool.not_true, Bool.not_false, Bool.and_true, Bool.true_and, Bool.and_false, Bool.false_and]; exact ht) | (exfalso; simp_all; done) | (exfalso; omega)
   ·refine g_stop (RunN.keep [0, 1] (F2 (false :: true :: F2 (true :: F32 (F32 (F32 (F32 (F16 (F8 (F4 (F2 ([]))))))))))) n0 (by decide) rfl rfl ?_)
    have ht := check_r21 p t he; first | (simp only [end1F, turnOk, h0, h1, if_true, if_false, Bool.false_eq_true, reduceCtorEq, Int.reduceEq, Int.reduceNeg, decide_true, decide_false, Bool.not_true, Bool.not_false, Bool.and_true, Bool.true_and, Bool.and_false, Bool.false_and]; exact ht) | (exfalso; simp_all; done) | (exfalso; omega)
  )
theorem check_l0 (p : EProg) (t : ETrace) (i : Nat) (hl : t.2.2.2.1.length ≤ 300) (he : t.2.2.2.2.1.length ≤ 200) : Run Tryd.prog 17 (retQ Tryd.prog (.c (.int .i64 (thenF (insF (p.1.getD (Int.toNat t.1) tFn.dflt, t) i (t.2.2.2.1.drop i)) (end1F (p.1.getD (Int.toNat t.1) tFn.dflt, t) t))))) (lp (bodyOf Tryd.f17) 0) (bCe2 t i) [.cells 29 (Ty.enc tTrace t), .cells 86 (Ty.enc tChk (p.1.getD (Int.toNat t.1) tFn.dflt, t))] :=
 Run.roundA oc8 check_lv 3000 Tryd.func17 mixed (check_l0_R p t i) (check_l0_R_ok p t i) (by
  unfold check_l0_R
  refine g_iteD (fun h0 => ?_) (fun h0 => ?_)
  ·refine g_need (by omega) ?_
   refine g_need (by omega) ?_
   refine g_call (of__fun (t.2.2.2.1.getD i tIns.dflt).1) (fun h => nomatch h) ?_
   refine g_iteN (fun h1 => ?_) (fun h1 => ?_)
   ·exact g_reti (by rw [dropCons (α := EIns) (Ty.dflt tIns) (by omega)]; simp only [insF, thenF, h0, h1, if_true, if_false, Int.reduceEq, reduceCtorEq])
   ·refine g_call (formed_fun ((p.1.getD (Int.toNat t.1) tFn.dflt), t) (ofF (t.2.2.2.1.getD i tIns.dflt).1).1 (t.2.2.2.1.getD i tIns.dflt) ((i : Nat) : Int) (ofF_asks _)) (fun h => nomatch h) ?_
    refine g_iteN (fun h2 => ?_) (fun h2 => ?_)
    ·exact g_reti (by rw [dropCons (α := EIns) (Ty.dflt tIns) (by omega)]; simp only [insF, thenF, h0, h1, h2, if_true, if_false, Int.reduceEq, reduceCtorEq])
    ·refine g_need (i64_iff.2 (by omega)) ?_
     refine g_stop (RunN.keep [0, 1] (F2 (false :: true :: F2 (true :: F32 (F32 (F8 (F2 (true :: true :: true :: F32 (F32 (F16 (false :: [])))))))))) n0 (by decide) rfl rfl ?_)
     have := check_l0 p t (i + 1) hl he; rw [dropCons (α := EIns) (Ty.dflt tIns) (by omega)]; simp only [insF, h0, h1, h2, if_true, if_false, reduceCtorEq]; exact this
  ·refine g_stop (RunN.keep [0, 1] (F2 (false :: true :: F2 (true :: F32 (F32 (F32 (F32 (F16 (F8 (F4 (F2 ([]))))))))))) n0 (by decide) rfl rfl ?_)
   have ht := check_r18 p t he; rw [List.drop_eq_nil_of_le (by omega)]; exact ht
  )
 termination_by t.2.2.2.1.length - i
 decreasing_by all_goals omega
theorem check_r8 (p : EProg) (t : ETrace) (h0 : 0 ≤ t.1 ∧ t.1 < p.1.length) (hl : t.2.2.2.1.length ≤ 300) (he : t.2.2.2.2.1.length ≤ 200) : Run Tryd.prog 17 (retQ Tryd.prog (.c (.int .i64 (bodyF (p.1.getD (Int.toNat t.1) tFn.dflt, t) t)))) (rg (bodyOf Tryd.f17) 8) (J2 (.c (.ptr 0 0 0 0) :: .c (.ptr 1 0 0 0) :: J32 (J32 (J32 (J32 (J32 (.junk :: []))))))) [.cells 39 (Ty.enc tProg p), .cells 29 (Ty.enc tTrace t)] :=
 Run.roundA oc8 check_lv 3000 Tryd.func17 mixed (check_r8_R p t) (check_r8_R_ok p t) (by
  unfold check_r8_R
  refine g_need (by omega) ?_
  refine g_need (by omega) ?_
  refine g_stop (RunN.keep [1, 2] (F2 (false :: true :: F2 (true :: F32 (F32 (F8 (F2 (true :: true :: true :: F32 (F32 (F16 (false :: [])))))))))) n0 (by decide) rfl rfl ?_)
  have ht := check_l0 p t 0 hl he; exact ht
  )
theorem check_r4 (p : EProg) (t : ETrace)  : Run Tryd.prog 17 (retQ Tryd.prog (.c (.int .i64 (check4F p t)))) (rg (bodyOf Tryd.f17) 4) (J2 (.c (.ptr 0 0 0 0) :: .c (.ptr 1 0 0 0) :: J32 (J32 (J32 (J32 (J32 (.junk :: []))))))) [.cells 39 (Ty.enc tProg p), .cells 29 (Ty.enc tTrace t)] :=
 Run.roundA oc8 check_lv 3000 Tryd.func17 mixed (check_r4_R p t) (check_r4_R_ok p t) (by
  unfold check_r4_R
  refine g_iteD (fun h0 => ?_) (fun h0 => ?_)
  ·exact g_reti (by first | (simp only [check4F, sizeOk, headOk, h0, if_true, if_false, Bool.false_eq_true, reduceCtorEq, Int.reduceEq, Int.reduceNeg, decide_true, decide_false, Bool.not_true, Bool.not_false, Bool.and_true, Bool.true_and, Bool.and_false, Bool.false_and]; done) | (simp_all [check4F, sizeOk, headOk]; done))
  ·refine g_iteD (fun h1 => ?_) (fun h1 => ?_)
   ·exact g_reti (by first | (simp only [check4F, sizeOk, headOk, h0, h1, if_true, if_false, Bool.false_eq_true, reduceCtorEq, Int.reduceEq, Int.reduceNeg, decide_true, decide_false, Bool.not_true, Bool.not_false, Bool.and_true, Bool.true_and, Bool.and_false, Bool.false_and]; done) | (simp_all [check4F, sizeOk, headOk]; done))
   ·refine g_iteD (fun h2 => ?_) (fun h2 => ?_)
    ·exact g_reti (by first | (simp only [check4F, sizeOk, headOk, h0, h1, h2, if_true, if_false, Bool.false_eq_true, reduceCtorEq, Int.reduceEq, Int.reduceNeg, decide_true, decide_false, Bool.not_true, Bool.not_false, Bool.and_true, Bool.true_and, Bool.and_false, Bool.false_and]; done) | (simp_all [check4F, sizeOk, headOk]; done))
    ·refine g_iteD (fun h3 => ?_) (fun h3 => ?_)
     ·exact g_reti (by first | (simp only [check4F, sizeOk, headOk, h0, h1, h2, h3, if_true, if_false, Bool.false_eq_true, reduceCtorEq, Int.reduceEq, Int.reduceNeg, decide_true, decide_false, Bool.not_true, Bool.not_false, Bool.and_true, Bool.true_and, Bool.and_false, Bool.false_and]; done) | (simp_all [check4F, sizeOk, headOk]; done))
     ·refine g_iteD (fun h4 => ?_) (fun h4 => ?_)
      ·exact g_reti (by first | (simp only [check4F, sizeOk, headOk, h0, h1, h2, h3, h4, if_true, if_false, Bool.false_eq_true, reduceCtorEq, Int.reduceEq, Int.reduceNeg, decide_true, decide_false, Bool.not_true, Bool.not_false, Bool.and_true, Bool.true_and, Bool.and_false, Bool.false_and]; done) | (simp_all [check4F, sizeOk, headOk]; done))
      ·refine g_need (by omega) ?_
       refine g_need (by omega) ?_
       refine g_iteD (fun h5 => ?_) (fun h5 => ?_)
       ·exact g_reti (by first | (simp only [check4F, sizeOk, headOk, h0, h1, h2, h3, h4, h5, if_true, if_false, Bool.false_eq_true, reduceCtorEq, Int.reduceEq, Int.reduceNeg, decide_true, decide_false, Bool.not_true, Bool.not_false, Bool.and_true, Bool.true_and, Bool.and_false, Bool.false_and]; done) | (simp_all [check4F, sizeOk, headOk]; done))
       ·refine g_iteD (fun h6 => ?_) (fun h6 => ?_)
        ·exact g_reti (by first | (simp only [check4F, sizeOk, headOk, h0, h1, h2, h3, h4, h5, h6, if_true, if_false, Bool.false_eq_true, reduceCtorEq, Int.reduceEq, Int.reduceNeg, decide_true, decide_false, Bool.not_true, Bool.not_false, Bool.and_true, Bool.true_and, Bool.and_false, Bool.false_and]; done) | (simp_all [check4F, sizeOk, headOk]; done))
        ·refine g_iteD (fun h7 => ?_) (fun h7 => ?_)
         ·exact g_reti (by first | (simp only [check4F, sizeOk, headOk, h0, h1, h2, h3, h4, h5, h6, h7, if_true, if_false, Bool.false_eq_true, reduceCtorEq, Int.reduceEq, Int.reduceNeg, decide_true, decide_false, Bool.not_true, Bool.not_false, Bool.and_true, Bool.true_and, Bool.and_false, Bool.false_and]; done) | (simp_all [check4F, sizeOk, headOk]; done))
         ·refine g_stop (RunN.keep [0, 1] (F2 (true :: true :: F32 (F32 (F32 (F32 (F32 (false :: []))))))) n0 (by decide) rfl rfl ?_)
          have ht := check_r8 p t (by omega) (by omega) (by omega); first | (simp only [check4F, sizeOk, headOk, h0, h1, h2, h3, h4, h5, h6, h7, if_true, if_false, Bool.false_eq_true, reduceCtorEq, Int.reduceEq, Int.reduceNeg, decide_true, decide_false, Bool.not_true, Bool.not_false, Bool.and_true, Bool.true_and, Bool.and_false, Bool.false_and]; exact ht) | (exfalso; simp_all; done) | (exfalso; omega)
  )
theorem check_fun (p : EProg) (t : ETrace) : AFun Tryd.prog 17 [.agg (tProg.enc p), .agg (tTrace.enc t)] (.c (.int .i64 (checkF p t))) :=
 AFun.of oc8 check_lv 3000 Tryd.func17 mixed rfl (by decide) (Nat.le_of_ble_eq_true rfl) _ (check_T_ok p t) fun hF => by
  unfold check_T
  refine g_call (codeCheck_fun p) (fun h => nomatch h) ?_
  refine g_iteND (fun h0 => ?_) (fun h0 => ?_)
  ·exact g_reti (by simp only [checkF, h0, if_true, if_false])
  ·refine g_stop (RunN.keep [0, 1] (F2 (true :: true :: F32 (F32 (F32 (F32 (F32 (false :: []))))))) n0 (by decide) rfl rfl ?_)
   have ht := check_r4 p t; first | (simp only [checkF, h0, if_true, if_false, Bool.false_eq_true, reduceCtorEq, Int.reduceEq, Int.reduceNeg, decide_true, decide_false, Bool.not_true, Bool.not_false, Bool.and_true, Bool.true_and, Bool.and_false, Bool.false_and]; exact ht) | (exfalso; simp_all; done) | (exfalso; omega)

end Go.Proofs.YtefkifdhjabdiaaDoor
namespace Go.Proofs.YtefkifdhjabdiaaDoor
set_option linter.unusedVariables false
set_option linter.unusedSimpArgs false
set_option maxRecDepth 100000
def eqIF (a b : List Int) : Bool := decide (a = b)
theorem drop_eqI {a b : List Int} {i : Nat} (hl : a.length = b.length) (hi : i < a.length) : (a.drop i = b.drop i) ↔ (a.getD i (Ty.dflt tI) = b.getD i (Ty.dflt tI) ∧ a.drop (i + 1) = b.drop (i + 1)) := by
 rw [dropCons (l := a) (Ty.dflt tI) hi, dropCons (l := b) (Ty.dflt tI) (by omega), List.cons.injEq]
def eqI_lv : LV := ⟨(false :: true :: F8 (F2 (true :: true :: true :: F8 (F2 (false :: []))))), []⟩
noncomputable def eqI_T (a : List Int) (b : List Int) : Tree :=
 .ite ((!(decide ((a.length : Int) = (b.length : Int)))))
 (.ret (.c (.lit false)) [])
 (.stop (lp (bodyOf Tryd.f41) 0) (.junk :: .c (.ro tI b) :: J8 (J2 (.c (.ro tI a) :: .c (.int .i64 (a.length : Int)) :: .c (.int .i64 0) :: J8 (J2 (.junk :: []))))) [])
theorem eqI_T_ok (a : List Int) (b : List Int) : aRun Tryd.prog oc0 Tryd.f41 eqI_lv 3000 [.code (bodyOf Tryd.f41)] ([.c (.ro tI a), .c (.ro tI b)] ++ List.replicate (Func.ntmps Tryd.f41 - 2) .junk) [] = eqI_T a b := by kernel_rfl
noncomputable def eqI_l0_R (a : List Int) (b : List Int) (i : Nat) : Tree :=
 .ite (decide (((i : Nat) : Int) < (a.length : Int)))
 (.need ((0 : Int) ≤ ((i : Nat) : Int) ∧ (((i : Nat) : Int) : Int) < (a.length : Int)) <|
  .need (i < a.length) <|
  .need ((0 : Int) ≤ ((i : Nat) : Int) ∧ (((i : Nat) : Int) : Int) < (b.length : Int)) <|
  .need (i < b.length) <|
  .ite ((!(decide ((a.getD i tI.dflt) = (b.getD i tI.dflt)))))
  (.ret (.c (.lit false)) [])
  (.need (inR .i64 (((i : Nat) : Int) + 1)) <|
  .stop (lp (bodyOf Tryd.f41) 0) (.junk :: .c (.ro tI b) :: J8 (J2 (.c (.ro tI a) :: .c (.int .i64 (a.length : Int)) :: .c (.int .i64 (((i : Nat) : Int) + 1)) :: J8 (J2 (.junk :: []))))) []))
 (.ret (.c (.lit true)) [])
theorem eqI_l0_R_ok (a : List Int) (b : List Int) (i : Nat) : aRound Tryd.prog oc0 Tryd.f41 eqI_lv 3000 (lp (bodyOf Tryd.f41) 0) (.junk :: .c (.ro tI b) :: J8 (J2 (.c (.ro tI a) :: .c (.int .i64 (a.length : Int)) :: .c (.int .i64 ((i : Nat) : Int)) :: J8 (J2 (.junk :: []))))) [] = eqI_l0_R a b i := by kernel_rfl
theorem eqI_l0 (a : List Int) (b : List Int) (i : Nat) (hl : a.length = b.length) (hb : a.length ≤ 9223372036854775807) : Run Tryd.prog 41 (retQ Tryd.prog (.c (.bool (decide (a.drop i = b.drop i))))) (lp (bodyOf Tryd.f41) 0) (.junk :: .c (.ro tI b) :: J8 (J2 (.c (.ro tI a) :: .c (.int .i64 (a.length : Int)) :: .c (.int .i64 ((i : Nat) : Int)) :: J8 (J2 (.junk :: []))))) [] :=
 Run.roundA oc0 eqI_lv 3000 Tryd.func41 mixed (eqI_l0_R a b i) (eqI_l0_R_ok a b i) (by
  unfold eqI_l0_R
  refine g_iteD (fun h0 => ?_) (fun h0 => ?_)
  ·refine g_need (by omega) ?_
   refine g_need (by omega) ?_
   refine g_need (by omega) ?_
   refine g_need (by omega) ?_
   refine g_iteND (fun h1 => ?_) (fun h1 => ?_)
   ·exact g_retl (by first | (rw [List.drop_eq_nil_of_le (by omega), List.drop_eq_nil_of_le (by omega)]; rfl) | (symm; rw [decide_eq_false_iff_not, drop_eqI hl (by omega)]; exact fun q => h1 q.1))
   ·refine g_need (i64_iff.2 (by omega)) ?_
    refine g_stop (RunN.keep [] (false :: true :: F8 (F2 (true :: true :: true :: F8 (F2 (false :: []))))) n0 (by decide) rfl rfl ?_)
    have := eqI_l0 a b (i + 1) hl hb; have e : decide (a.drop i = b.drop i) = decide (a.drop (i + 1) = b.drop (i + 1)) := (by rw [decide_eq_decide, drop_eqI hl (by omega)]; exact ⟨fun q => q.2, fun q => ⟨h1, q⟩⟩); rw [e]; exact this
  ·exact g_retl (by first | (rw [List.drop_eq_nil_of_le (by omega), List.drop_eq_nil_of_le (by omega)]; rfl) | (symm; rw [decide_eq_false_iff_not, drop_eqI hl (by omega)]; exact fun q => h1 q.1))
  )
 termination_by a.length - i
 decreasing_by all_goals omega
theorem eqI_fun (a : List Int) (b : List Int) : AFun Tryd.prog 41 [.c (.ro tI a), .c (.ro tI b)] (.c (.bool (eqIF a b))) :=
 AFun.of oc0 eqI_lv 3000 Tryd.func41 mixed rfl (by decide) (Nat.le_of_ble_eq_true rfl) _ (eqI_T_ok a b) fun hF => by
  unfold eqI_T
  refine g_iteND (fun h0 => ?_) (fun h0 => ?_)
  ·exact g_retl (by symm; unfold eqIF; rw [decide_eq_false_iff_not]; intro q; exact h0 (by rw [q]))
  ·refine g_stop (RunN.keep [] (false :: true :: F8 (F2 (true :: true :: true :: F8 (F2 (false :: []))))) n0 (by decide) rfl rfl ?_)
   have := eqI_l0 a b 0 (by omega) hF.ro.1.1; exact this

noncomputable def oc9 : Orc where
 pure := fun f args => match f, args with
  | 18, [a0] => match dA tIns a0 with
   | some x0 => some (.c (.ro tI (askF x0)))
   | _ => none
  | 19, [a0] => match dA tI a0 with
   | some x0 => some (.c (.bool (tellF x0)))
   | _ => none
  | 41, [a0, a1] => match dA (.slice tI) a0, dA (.slice tI) a1 with
   | some x0, some x1 => some (.c (.bool (eqIF x0 x1)))
   | _, _ => none
  | _, _ => none
 heap := fun _ _ _ => none
def irred_lv : LV := ⟨([]), []⟩
noncomputable def irred_T  : Tree :=
 .call 18 [.agg [.int .i64 14, .int .i64 4, .int .i64 5, .int .i64 6, .int .i64 0, .int .i64 0, .int .i64 0, .int .i64 0]] false (.c (.ro tI (askF (14, (4, (5, (6, (0, (0, (0, 0)))))))))) <|
 .need (0 = 0 ∧ 3 = ([4, 5, 6]).length) <|
 .call 41 [.c (.ro tI (askF (14, (4, (5, (6, (0, (0, (0, 0))))))))), .c (.ro tI ([4, 5, 6]))] true (.c (.bool (eqIF (askF (14, (4, (5, (6, (0, (0, (0, 0)))))))) ([4, 5, 6])))) <|
 .ite (eqIF (askF (14, (4, (5, (6, (0, (0, (0, 0)))))))) ([4, 5, 6]))
 (.call 19 [.c (.int .i64 13)] false (.c (.bool (tellF 13))) <|
  .ite (tellF 13)
  (.call 19 [.c (.int .i64 11)] false (.c (.bool (tellF 11))) <|
  .ret (.c (.bool (!(tellF 11)))) [.vec 3 tI ([4, 5, 6])])
  (.ret (.c (.lit false)) [.vec 3 tI ([4, 5, 6])]))
 (.ret (.c (.lit false)) [.vec 3 tI ([4, 5, 6])])
theorem irred_T_ok  : aRun Tryd.prog oc9 Tryd.f15 irred_lv 3000 [.code (bodyOf Tryd.f15)] ([] ++ List.replicate (Func.ntmps Tryd.f15 - 0) .junk) [] = irred_T  := by kernel_rfl
theorem irred_fun  : AFun Tryd.prog 15 [] (.c (.bool (true))) :=
 AFun.of oc9 irred_lv 3000 Tryd.func15 mixed rfl (by decide) (Nat.le_of_ble_eq_true rfl) _ (irred_T_ok ) fun hF => by
  unfold irred_T
  refine g_call (asks_fun (14, (4, (5, (6, (0, (0, (0, 0)))))))) (fun h => nomatch h) ?_
  refine g_need (by first | omega | decide | exact ⟨rfl, rfl⟩) ?_
  refine g_call (eqI_fun (askF (14, (4, (5, (6, (0, (0, (0, 0)))))))) ([4, 5, 6])) (fun _ => rfl) ?_
  refine g_ite (fun h0 => ?_) (fun h0 => ?_)
  ·refine g_call (tells_fun 13) (fun h => nomatch h) ?_
   refine g_ite (fun h1 => ?_) (fun h1 => ?_)
   ·refine g_call (tells_fun 11) (fun h => nomatch h) ?_
    exact g_retb (by first | exact absurd h0 (by decide) | exact absurd h1 (by decide) | decide)
   ·exact g_retl (by first | exact absurd h0 (by decide) | exact absurd h1 (by decide) | decide)
  ·exact g_retl (by first | exact absurd h0 (by decide) | exact absurd h1 (by decide) | decide)

theorem insF_at {c : EChk} : ∀ {l : List EIns} {k : Nat}, insF c k l = 0 → ∀ (i : Nat) (x : EIns), l[i]? = some x → (ofF x.1).2 = true ∧ formedF c (ofF x.1).1 x (k + i : Nat) = true
 | [], k, _, i, x, hx => by simp at hx
 | y :: r, k, h, i, x, hx => by
  unfold insF at h
  split at h
  ·exact absurd h (by decide)
  ·split at h
   ·exact absurd h (by decide)
   ·rename_i h1 h2
    cases i with
    | zero =>
     simp at hx
     subst hx
     exact ⟨by simpa using h1, by simpa using h2⟩
    | succ i =>
     simp at hx
     have := insF_at h i x hx
     have e : k + 1 + i = k + (i + 1) := by omega
     rwa [e] at this
theorem check_ins {p : EProg} {t : ETrace} (h : checkF p t = 0) : ∀ (i : Nat) (x : EIns), t.2.2.2.1[i]? = some x → (ofF x.1).2 = true ∧ formedF (p.1.getD (Int.toNat t.1) tFn.dflt, t) (ofF x.1).1 x (i : Nat) = true := by
 unfold checkF at h
 split at h
 ·unfold check4F at h
  split at h
  ·split at h
   ·unfold bodyF thenF at h
    split at h
    ·rename_i h0
     intro i x hx
     have := insF_at h0 i x hx
     simpa using this
    ·rename_i h0; exact absurd h h0
   ·exact absurd h (by decide)
  ·exact absurd h (by decide)
 ·rename_i h0; exact absurd h h0
theorem check_asks {p : EProg} {t : ETrace} (h : checkF p t = 0) {i : Nat} (hi : i < t.2.2.2.1.length) : ∀ v ∈ askF (t.2.2.2.1.getD i tIns.dflt), 0 ≤ v ∧ v < (i : Int) ∧ v < (t.2.2.2.1.length : Int) ∧ tellF (t.2.2.2.1.getD v.toNat tIns.dflt).1 = true := by
 intro v hv
 have hx : t.2.2.2.1[i]? = some (t.2.2.2.1.getD i tIns.dflt) := by rw [List.getD_eq_getElem?_getD, List.getElem?_eq_getElem hi]; rfl
 obtain ⟨h1, h2⟩ := check_ins h i _ hx
 unfold askF at hv
 rw [if_pos h1] at hv
 unfold formedF at h2
 rw [Bool.and_eq_true] at h2
 have h3 := List.all_eq_true.1 h2.1 v hv
 exact valueF_len h3
end Go.Proofs.YtefkifdhjabdiaaDoor
namespace Go.Proofs.YtefkifdhjabdiaaDoor
set_option linter.unusedVariables false
set_option linter.unusedSimpArgs false
theorem makeF_iff {c : EChk} {m : EMake} {a : Int} : makeF c m a = true ↔ valueF c m.1 a = true ∧ (c.2.2.2.2.1.getD (Int.toNat m.1) tIns.dflt).1 = 18 ∧ 1 ≤ m.2.1 ∧ m.2.1 ≤ 3 ∧ 0 ≤ m.2.2.1 ∧ (0 < m.2.2.1 → m.2.1 = 1) ∧ m.2.2.2.length ≤ 100 ∧ valuesF c m.2.2.2 a = true := by
 unfold makeF
 cases hv : valueF c m.1 a with
 | false => simp
 | true =>
  by_cases h1 : (c.2.2.2.2.1.getD (Int.toNat m.1) tIns.dflt).1 = 18
  ·rw [if_neg (by simp), if_neg (by rw [decide_eq_true h1]; decide)]
   by_cases h2 : m.2.1 < 1
   ·rw [if_pos h2]; constructor
    ·intro h; cases h
    ·rintro ⟨_, _, h3, _⟩; omega
   ·rw [if_neg h2]
    by_cases h3 : 3 < m.2.1
    ·rw [if_pos h3]; constructor
     ·intro h; cases h
     ·rintro ⟨_, _, _, h4, _⟩; omega
    ·rw [if_neg h3]
     by_cases h4 : m.2.2.1 < 0
     ·rw [if_pos h4]; constructor
      ·intro h; cases h
      ·rintro ⟨_, _, _, _, h5, _⟩; omega
     ·rw [if_neg h4]
      have key : (if (m.2.2.2.length : Int) ≤ 100 then valuesF c m.2.2.2 a else false) = true ↔ m.2.2.2.length ≤ 100 ∧ valuesF c m.2.2.2 a = true := by
       by_cases h6 : (m.2.2.2.length : Int) ≤ 100
       ·rw [if_pos h6]; exact ⟨fun h => ⟨by omega, h⟩, fun h => h.2⟩
       ·rw [if_neg h6]; exact ⟨fun h => (by cases h), fun h => absurd h.1 (by omega)⟩
      by_cases h5 : 0 < m.2.2.1
      ·rw [if_pos h5]
       by_cases h7 : m.2.1 = 1
       ·rw [if_neg (by simp [h7]), key]
        exact ⟨fun h => ⟨rfl, h1, by omega, by omega, by omega, fun _ => h7, h⟩, fun h => h.2.2.2.2.2.2⟩
       ·rw [if_pos (by simp [h7])]
        exact ⟨fun h => (by cases h), fun h => absurd (h.2.2.2.2.2.1 h5) h7⟩
      ·rw [if_neg h5, key]
       exact ⟨fun h => ⟨rfl, h1, by omega, by omega, by omega, fun h' => absurd h' h5, h⟩, fun h => h.2.2.2.2.2.2⟩
  ·rw [if_neg (by simp), if_pos (by rw [decide_eq_false h1]; rfl)]
   exact ⟨fun h => (by cases h), fun h => absurd h.2.1 h1⟩
theorem setsF_len {c : EChk} {a : Int} : ∀ {l : List ESet} {last : Int}, setsF c a last l = true → l.length ≤ (c.1.2.1 - 1 - last).toNat
 | [], _, _ => by simp
 | s :: r, last, h => by
  unfold setsF at h
  split at h
  ·cases h
  ·split at h
   ·cases h
   ·split at h
    ·cases h
    ·have := setsF_len h
     simp only [List.length_cons]
     omega
theorem makesF_len {c : EChk} {a : Int} : ∀ {l : List EMake} {last : Int}, makesF c a last l = true → l.length ≤ ((c.2.2.2.2.1.length : Int) - 1 - last).toNat ∧ ∀ m ∈ l, m.2.2.2.length ≤ 100
 | [], _, _ => by simp
 | m :: r, last, h => by
  unfold makesF at h
  split at h
  ·cases h
  ·rename_i h1
   split at h
   ·cases h
   ·rename_i h2
    obtain ⟨q1, q2⟩ := makesF_len h
    have h2 : makeF c m a = true := by simpa using h2
    have hv := makeF_iff.1 h2
    refine ⟨?_, fun x hx => ?_⟩
    ·simp only [List.length_cons]
     have := valueF_len hv.1
     omega
    ·rcases List.mem_cons.1 hx with rfl | hx
     ·exact hv.2.2.2.2.2.2.1
     ·exact q2 x hx
theorem rightXF_iff {c : EChk} {x : EExit} {a : Int} : rightXF c x a = true ↔ (0 ≤ x.1 ∧ x.1 < (c.1.2.2.2.2.length : Int)) ∧ (0 ≤ x.2.1 ∧ x.2.1 ≤ 200) ∧ setsF c a (-1) x.2.2.1 = true ∧ makesF c a (-1) x.2.2.2 = true := by
 unfold rightXF
 by_cases h1 : x.1 < 0
 ·rw [if_pos h1]; exact ⟨fun h => (by cases h), fun h => absurd h.1.1 (by omega)⟩
 ·rw [if_neg h1]
  by_cases h2 : (c.1.2.2.2.2.length : Int) ≤ x.1
  ·rw [if_pos h2]; exact ⟨fun h => (by cases h), fun h => absurd h.1.2 (by omega)⟩
  ·rw [if_neg h2]
   by_cases h3 : x.2.1 < 0
   ·rw [if_pos h3]; exact ⟨fun h => (by cases h), fun h => absurd h.2.1.1 (by omega)⟩
   ·rw [if_neg h3]
    by_cases h4 : 200 < x.2.1
    ·rw [if_pos h4]; exact ⟨fun h => (by cases h), fun h => absurd h.2.1.2 (by omega)⟩
    ·rw [if_neg h4, Bool.and_eq_true]
     exact ⟨fun h => ⟨⟨by omega, by omega⟩, ⟨by omega, by omega⟩, h⟩, fun h => h.2.2⟩
theorem insF_iff {c : EChk} : ∀ {l : List EIns} {k : Nat}, insF c k l = 0 ↔ ∀ (i : Nat) (x : EIns), l[i]? = some x → (ofF x.1).2 = true ∧ formedF c (ofF x.1).1 x (k + i : Nat) = true
 | [], k => by unfold insF; simp
 | y :: r, k => by
  constructor
  ·exact fun h => insF_at h
  ·intro h
   have h0 := h 0 y rfl
   unfold insF
   rw [if_neg (by simp [h0.1]), if_neg (by have := h0.2; simp at this; simp [this])]
   refine insF_iff.2 fun i x hx => ?_
   have := h (i + 1) x (by simpa using hx)
   rwa [show k + (i + 1) = k + 1 + i by omega] at this
theorem exitsF_iff {c : EChk} {n : Int} : ∀ {l : List EExit}, exitsF c n l = 0 ↔ ∀ x ∈ l, rightXF c x n = true
 | [] => by unfold exitsF; simp
 | y :: r => by
  unfold exitsF
  by_cases h : rightXF c y n = true
  ·rw [if_neg (by simp [h])]
   rw [exitsF_iff]
   simp [h]
  ·rw [if_pos (by simpa using h)]
   constructor
   ·intro h; cases h
   ·intro q; exact absurd (q y (by simp)) h
/-- The checker of a trace. -/
def chkOf (p : EProg) (t : ETrace) : EChk := (p.1.getD (Int.toNat t.1) tFn.dflt, t)
structure CheckOk (p : EProg) (t : ETrace) : Prop where
 code : codeF p = 0
 n : t.2.2.2.1.length ≤ 300
 m : t.2.2.2.2.1.length ≤ 200
 fn0 : 0 ≤ t.1
 fn1 : t.1 < (p.1.length : Int)
 at0 : 0 ≤ t.2.1
 at1 : t.2.1 < ((chkOf p t).1.2.2.2.2.length : Int)
 loop0 : 0 ≤ t.2.2.1
 loop1 : t.2.2.1 ≤ (t.2.2.2.1.length : Int)
 ins : ∀ (i : Nat) (x : EIns), t.2.2.2.1[i]? = some x → (ofF x.1).2 = true ∧ formedF (chkOf p t) (ofF x.1).1 x (i : Nat) = true
 turn0 : t.2.2.1 = 0 → bareF t.2.2.2.2.2.1 = true
 turn1 : 0 < t.2.2.1 → t.2.2.2.2.2.1.1 = t.2.1 ∧ rightXF (chkOf p t) t.2.2.2.2.2.1 t.2.2.1 = true
 back : t.2.2.2.2.2.2.1 = t.2.1 ∧ rightXF (chkOf p t) t.2.2.2.2.2.2 (t.2.2.2.1.length : Int) = true
 exits : ∀ x ∈ t.2.2.2.2.1, rightXF (chkOf p t) x (t.2.2.2.1.length : Int) = true
theorem sizeOk_iff {t : ETrace} : sizeOk t = true ↔ t.2.2.2.1.length ≤ 300 ∧ t.2.2.2.2.1.length ≤ 200 := by
 unfold sizeOk
 by_cases h1 : (300 : Int) < (t.2.2.2.1.length : Int)
 ·rw [if_pos h1]; exact ⟨fun h => (by cases h), fun h => absurd h.1 (by omega)⟩
 ·rw [if_neg h1]
  by_cases h2 : (200 : Int) < (t.2.2.2.2.1.length : Int)
  ·rw [if_pos h2]; exact ⟨fun h => (by cases h), fun h => absurd h.2 (by omega)⟩
  ·rw [if_neg h2]; exact ⟨fun _ => ⟨by omega, by omega⟩, fun _ => rfl⟩
theorem headOk_iff {p : EProg} {t : ETrace} : headOk p t = true ↔ 0 ≤ t.1 ∧ t.1 < (p.1.length : Int) ∧ 0 ≤ t.2.1 ∧ t.2.1 < ((chkOf p t).1.2.2.2.2.length : Int) ∧ 0 ≤ t.2.2.1 ∧ t.2.2.1 ≤ (t.2.2.2.1.length : Int) := by
 unfold headOk
 repeat' split
 all_goals first
  | (refine ⟨fun _ => ⟨?_, ?_, ?_, ?_, ?_, ?_⟩, fun _ => rfl⟩ <;> (try simp only [chkOf]) <;> omega)
  | (simp only [false_iff, Bool.false_eq_true]; rintro ⟨q1, q2, q3, q4, q5, q6⟩; simp only [chkOf] at q4; omega)
theorem turnOk_iff {c : EChk} {t : ETrace} (h0 : 0 ≤ t.2.2.1) : turnOk c t = true ↔ (t.2.2.1 = 0 → bareF t.2.2.2.2.2.1 = true) ∧ (0 < t.2.2.1 → t.2.2.2.2.2.1.1 = t.2.1 ∧ rightXF c t.2.2.2.2.2.1 t.2.2.1 = true) := by
 unfold turnOk
 by_cases h : t.2.2.1 = 0
 ·rw [if_pos h, if_neg (by omega)]
  simp [h]
 ·rw [if_neg h, if_pos (by omega)]
  simp [h, show 0 < t.2.2.1 by omega]
theorem check_iff {p : EProg} {t : ETrace} : checkF p t = 0 ↔ CheckOk p t := by
 constructor
 ·intro h
  unfold checkF at h
  split at h
  ·rename_i hc
   unfold check4F at h
   split at h
   ·rename_i hs
    split at h
    ·rename_i hh
     unfold bodyF thenF at h
     split at h
     ·rename_i hi
      unfold end1F at h
      split at h
      ·rename_i ht
       unfold end2F at h
       split at h
       ·rename_i hb
        obtain ⟨s1, s2⟩ := sizeOk_iff.1 hs
        obtain ⟨q1, q2, q3, q4, q5, q6⟩ := headOk_iff.1 hh
        obtain ⟨t1, t2⟩ := (turnOk_iff q5).1 ht
        unfold backOk at hb
        rw [Bool.and_eq_true, decide_eq_true_eq] at hb
        exact ⟨hc, s1, s2, q1, q2, q3, q4, q5, q6, fun i x hx => by have := insF_iff.1 hi i x hx; rw [Nat.zero_add] at this; exact this, t1, t2, hb, exitsF_iff.1 h⟩
       ·cases h
      ·cases h
     ·rename_i hi; exact absurd h hi
    ·cases h
   ·cases h
  ·rename_i hc; exact absurd h hc
 ·rintro ⟨hc, s1, s2, q1, q2, q3, q4, q5, q6, hi, t1, t2, hb, he⟩
  have e : checkF p t = (if codeF p = 0 then (if sizeOk t = true then (if headOk p t = true then bodyF (chkOf p t) t else 3) else 2) else codeF p) := rfl
  rw [e, if_pos hc, if_pos (sizeOk_iff.2 ⟨s1, s2⟩), if_pos (headOk_iff.2 ⟨q1, q2, q3, q4, q5, q6⟩)]
  unfold bodyF thenF
  rw [if_pos (insF_iff.2 fun i x hx => by have := hi i x hx; rw [Nat.zero_add]; exact this)]
  unfold end1F
  rw [if_pos ((turnOk_iff q5).2 ⟨t1, t2⟩)]
  unfold end2F
  rw [if_pos (by unfold backOk; rw [Bool.and_eq_true, decide_eq_true_eq]; exact hb)]
  exact exitsF_iff.2 he
theorem code_regs {p : EProg} (h : codeF p = 0) : ∀ f ∈ p.1, f.2.2.2.2.length ≤ 600 ∧ f.2.1 ≤ 60 := by
 refine large_fns ?_
 cases hl : largeF (toProg p) with
 | false => rfl
 | true =>
  unfold codeF at h
  rw [if_pos hl] at h
  exact absurd h (by decide)
theorem CheckOk.regs {p : EProg} {t : ETrace} (h : CheckOk p t) : (chkOf p t).1.2.1 ≤ 60 := by
 have h0 := h.fn0
 have h1 := h.fn1
 exact (code_regs h.code _ (getD_mem (α := EFn) (Ty.dflt tFn) (by omega : Int.toNat t.1 < p.1.length))).2
theorem bareF_iff {x : EExit} : bareF x = true ↔ x = (0, 0, [], []) := by
 obtain ⟨a, b, c, d⟩ := x
 unfold bareF
 simp only
 by_cases h1 : a = 0
 ·rw [if_pos h1]
  by_cases h2 : b = 0
  ·rw [if_pos h2]
   by_cases h3 : (c.length : Int) = 0
   ·rw [if_pos h3]
    have : c = [] := List.eq_nil_of_length_eq_zero (by omega)
    subst this; subst h1; subst h2
    rw [decide_eq_true_eq]
    constructor
    ·intro h
     have : d = [] := List.eq_nil_of_length_eq_zero (by omega)
     subst this; rfl
    ·intro h
     injection h with _ h; injection h with _ h; injection h with _ h; subst h; rfl
   ·rw [if_neg h3]
    exact ⟨fun h => (by cases h), fun h => by injection h with _ h; injection h with _ h; injection h with h; subst h; exact absurd rfl h3⟩
  ·rw [if_neg h2]
   exact ⟨fun h => (by cases h), fun h => by injection h with _ h; injection h with h; exact absurd h h2⟩
 ·rw [if_neg h1]
  exact ⟨fun h => (by cases h), fun h => by injection h with h; exact absurd h h1⟩
end Go.Proofs.YtefkifdhjabdiaaDoor
namespace Go.Proofs.YtefkifdhjabdiaaDoor
set_option linter.unusedVariables false
set_option linter.unusedSimpArgs false
theorem valueF_in {c : EChk} {v a : Int} (h : valueF c v a = true) : 0 ≤ v ∧ v < a ∧ v < (c.2.2.2.2.1.length : Int) := by
 unfold valueF at h
 by_cases h1 : 0 ≤ v
 ·rw [if_pos h1] at h
  by_cases h2 : v < a
  ·rw [if_pos h2] at h
   by_cases h3 : v < (c.2.2.2.2.1.length : Int)
   ·exact ⟨h1, h2, h3⟩
   ·rw [if_neg h3] at h; cases h
  ·rw [if_neg h2] at h; cases h
 ·rw [if_neg h1] at h; cases h
theorem mem_take3 {a b c : Int} {n : Nat} : (0 < n → a ∈ [a, b, c].take n) ∧ (1 < n → b ∈ [a, b, c].take n) ∧ (2 < n → c ∈ [a, b, c].take n) := by
 refine ⟨fun h => ?_, fun h => ?_, fun h => ?_⟩
 ·rw [show n = (n - 1) + 1 by omega]; simp
 ·rw [show n = (n - 2) + 1 + 1 by omega]; simp
 ·rw [show n = (n - 3) + 1 + 1 + 1 by omega]; simp
theorem askF_le (x : EIns) : (askF x).length ≤ 3 := by
 unfold askF
 split
 ·rw [List.length_take]; simp; omega
 ·simp
theorem ask_in {p : EProg} {t : ETrace} (hc : CheckOk p t) {i : Nat} (hi : i < t.2.2.2.1.length) :
  ((0 : Int) < ((askF (t.2.2.2.1.getD i tIns.dflt)).length : Int) → 0 ≤ (t.2.2.2.1.getD i tIns.dflt).2.1 ∧ (t.2.2.2.1.getD i tIns.dflt).2.1 < (i : Int)) ∧
  ((1 : Int) < ((askF (t.2.2.2.1.getD i tIns.dflt)).length : Int) → 0 ≤ (t.2.2.2.1.getD i tIns.dflt).2.2.1 ∧ (t.2.2.2.1.getD i tIns.dflt).2.2.1 < (i : Int)) ∧
  ((2 : Int) < ((askF (t.2.2.2.1.getD i tIns.dflt)).length : Int) → 0 ≤ (t.2.2.2.1.getD i tIns.dflt).2.2.2.1 ∧ (t.2.2.2.1.getD i tIns.dflt).2.2.2.1 < (i : Int)) := by
 have ex : t.2.2.2.1[i]? = some (t.2.2.2.1.getD i tIns.dflt) := by rw [List.getD_eq_getElem?_getD, List.getElem?_eq_getElem hi]; rfl
 generalize hx : t.2.2.2.1.getD i tIns.dflt = x at ex ⊢
 obtain ⟨h1, h2⟩ := hc.ins i x ex
 unfold formedF at h2
 rw [Bool.and_eq_true] at h2
 have hv : ∀ v ∈ [x.2.1, x.2.2.1, x.2.2.2.1].take (ofF x.1).1.1.toNat, 0 ≤ v ∧ v < (i : Int) := fun v hm => by
  obtain ⟨q0, q1, _⟩ := valueF_in (List.all_eq_true.1 h2.1 v hm)
  exact ⟨q0, q1⟩
 have hl : (askF x).length ≤ (ofF x.1).1.1.toNat := by
  unfold askF
  rw [if_pos h1, List.length_take]
  omega
 obtain ⟨m0, m1, m2⟩ := mem_take3 (a := x.2.1) (b := x.2.2.1) (c := x.2.2.2.1) (n := (ofF x.1).1.1.toNat)
 exact ⟨fun h => hv _ (m0 (by omega)), fun h => hv _ (m1 (by omega)), fun h => hv _ (m2 (by omega))⟩
end Go.Proofs.YtefkifdhjabdiaaDoor
namespace Go.Proofs.YtefkifdhjabdiaaDoor
set_option linter.unusedVariables false
set_option linter.unusedSectionVars false
set_option linter.unusedSimpArgs false
open Go.RowKit

theorem leC.refl (c : CV) : leC c c := by cases c <;> simp [leC]
theorem leCs.refl : ∀ (l : List CV), leCs l l
 | [] => trivial
 | c :: r => ⟨leC.refl c, leCs.refl r⟩
theorem leA1.refl (a : A1) : leA1 a a := by
 cases a with
 | c c => exact leC.refl c
 | agg cs => exact leCs.refl cs
theorem leA1s.refl : ∀ (l : List A1), leA1s l l
 | [] => trivial
 | c :: r => ⟨leA1.refl c, leA1s.refl r⟩
theorem leAV.refl (a : AV) : leAV a a := by
 cases a with
 | junk => trivial
 | one a => exact leA1.refl a
 | tup l => exact leA1s.refl l
def leB : AB → AB → Prop
 | .dead, .dead => True
 | .dead, .ovec e t xs => xs = []
 | .vec e t xs, .ovec e' t' ys => e = e' ∧ (∃ h : t = t', h ▸ xs = ys) ∧ ys ≠ []
 | .ovec e t xs, .ovec e' t' ys => e = e' ∧ ∃ h : t = t', h ▸ xs = ys
 | .vec e t xs, .vec e' t' ys => e = e' ∧ ∃ h : t = t', h ▸ xs = ys
 | .cells e cs, .cells e' cs' => e = e' ∧ leCs cs cs'
 | a, b => a = b
theorem leB.refl (a : AB) : leB a a := by
 cases a with
 | dead => trivial
 | cells e cs => exact ⟨rfl, leCs.refl cs⟩
 | vec e t xs => exact ⟨rfl, rfl, rfl⟩
 | ovec e t xs => exact ⟨rfl, rfl, rfl⟩
 | map k kt et n m => exact rfl
def leHs : List AB → List AB → Prop
 | [], [] => True
 | a :: r, b :: s => leB a b ∧ leHs r s
 | _, _ => False
theorem leHs.refl : ∀ (l : List AB), leHs l l
 | [] => trivial
 | a :: r => ⟨leB.refl a, leHs.refl r⟩
/-- What it stands for says less. -/
def LeB (a b : AB) : Prop := (b ≠ .dead → a ≠ .dead) ∧ ∀ σ w k, Blk σ w k a → Blk σ w k b
theorem leB.to {a b : AB} (h : leB a b) : LeB (nrm a) (nrm b) := by
 have hE : ∀ {a b : AB}, a = b → LeB (nrm a) (nrm b) := fun h => by subst h; exact ⟨fun h => h, fun _ _ _ h => h⟩
 cases b with
 | dead => cases a <;> simp only [leB] at h <;> first | (exact hE rfl) | cases h
 | cells e cs =>
  cases a <;> simp only [leB] at h <;> try (cases h; done)
  case cells =>
   obtain ⟨rfl, h⟩ := h
   exact ⟨fun _ => by simp [nrm], fun σ w k ⟨c, hc, hcs⟩ => ⟨c, hc, leCs.to h hcs⟩⟩
 | vec e t xs =>
  cases a <;> simp only [leB] at h <;> try (cases h; done)
  case vec => obtain ⟨rfl, rfl, rfl⟩ := h; exact hE rfl
 | ovec e t xs =>
  cases a <;> simp only [leB] at h <;> try (cases h; done)
  case dead => subst h; exact hE (a := .dead) (b := .dead) rfl
  case vec =>
   obtain ⟨rfl, ⟨rfl, h⟩, hx⟩ := h
   subst h
   rw [nrm_ovec hx]
   exact hE (a := .vec ..) rfl
  case ovec => obtain ⟨rfl, rfl, rfl⟩ := h; exact hE rfl
 | map k kt et n m =>
  cases a <;> simp only [leB] at h <;> try (cases h; done)
  case map => exact hE h
theorem leHs.to : ∀ {H H' : List AB}, leHs H H' → H.length = H'.length ∧ ∀ b, LeB (gv H b) (gv H' b)
 | [], [], _ => ⟨rfl, fun b => ⟨fun h => h, fun _ _ _ h => h⟩⟩
 | a :: r, b :: s, h => by
  obtain ⟨h1, h2⟩ := leHs.to h.2
  refine ⟨by simp [h1], fun k => ?_⟩
  cases k with
  | zero => exact h.1.to
  | succ k => exact h2 k
 | [], _ :: _, h => h.elim
 | _ :: _, [], h => h.elim
theorem RelG.le {σ : Sg} {H H' : List AB} {w : World} (hr : RelG σ (gv H) w) (h : ∀ b, LeB (gv H b) (gv H' b)) : RelG σ (gv H') w where
 dom := fun b hb => hr.dom b ((h b).1 hb)
 blk := fun b hb => (h b).2 _ _ _ (hr.blk b ((h b).1 hb))
 inj := fun b b' hb hb' e => hr.inj b b' ((h b).1 hb) ((h b').1 hb') e
 out := fun b hb => hr.out b ((h b).1 hb)
 rlt := hr.rlt
 glob := hr.glob
theorem Out.le {σ0 σ : Sg} {G0 : Nat → AB} {H H' : List AB} {W w : World} (ho : Out σ0 G0 W σ (gv H) w) (h : ∀ b, LeB (gv H b) (gv H' b)) : Out σ0 G0 W σ (gv H') w := ⟨ho.chg, ho.ext, fun b hb => ho.loc b ((h b).1 hb), ho.R⟩
/-- A state that says less. -/
theorem RunN.less {n0 : Nat} {P : Program} {f : FuncId} {Q : AV → List AB → Prop} {todo : List Item} {env env' : List AV} {H H' : List AB} (hE : leAVs env env') (hH : leHs H H') (h : RunN n0 P f Q todo env' H') : RunN n0 P f Q todo env H := fun σ0 G0 W b a w cs h0 h1 h2 h3 => by
 refine h σ0 G0 W b a w cs h0 h1 h2 ?_
 obtain ⟨σ, h3⟩ := h3
 obtain ⟨hl, hB⟩ := hH.to
 have hE := leAVs.to hE
 refine ⟨σ, fun b hb => by rw [← hl]; exact h3.D b hb, ⟨hE.1.symm.trans h3.env.1, fun t => ?_⟩, h3.rel.le hB, h3.out.le hB, h3.defers⟩
 by_cases ht : t < env.length
 ·have ht' : t < env'.length := by rw [← hE.1]; exact ht
  have h4 := h3.env.2 t
  rw [List.getD_eq_getElem?_getD, List.getElem?_eq_getElem ht] at h4
  rw [List.getD_eq_getElem?_getD, List.getElem?_eq_getElem ht']
  exact hE.2 t _ _ (List.getElem?_eq_getElem ht) (List.getElem?_eq_getElem ht') σ w _ h4
 ·rw [List.getD_eq_getElem?_getD, List.getElem?_eq_none (by rw [← hE.1]; omega)]; trivial
/-- Names, dropped and changed. -/
theorem keep_rel {n0 : Nat} {σ0 σ : Sg} {G0 : Nat → AB} {H : List AB} {W w : World} (gl : List Nat) (hn : ∀ k, k < n0 → gl[k]? = some k) (hnd : gl.Nodup) (h0 : ∀ k, σ0.D k → k < n0) (hr : RelG σ (gv H) w) (ho : Out σ0 G0 W σ (gv H) w) :
  RelG (renS gl σ) (gv (gl.map (fun b => renB gl (rgv H b)))) w ∧ Out σ0 G0 W (renS gl σ) (gv (gl.map (fun b => renB gl (rgv H b)))) w := by
 have gk : ∀ k, gv (gl.map (fun b => renB gl (rgv H b))) k ≠ .dead → k < gl.length ∧ gv H (gl.getD k 0) ≠ .dead ∧ gv (gl.map (fun b => renB gl (rgv H b))) k = renB gl (gv H (gl.getD k 0)) := fun k hk => by
  by_cases hl : k < gl.length
  ·have e : gv (gl.map (fun b => renB gl (rgv H b))) k = renB gl (gv H (gl.getD k 0)) := by
    rw [gv_rgv H, ← nrm_renB]
    refine gv_some ?_
    simp [List.getElem?_map, List.getElem?_eq_getElem hl, List.getD_eq_getElem?_getD]
   refine ⟨hl, fun hd => hk ?_, e⟩
   rw [e, hd]; rfl
  ·exact absurd (gv_none (by rw [List.getElem?_map, List.getElem?_eq_none (Nat.le_of_not_lt hl)]; rfl)) hk
 refine ⟨⟨fun b hb => ?_, fun b hb => ?_, fun b b' hb hb' he => ?_, fun b hb => ?_, hr.rlt, hr.glob⟩, ⟨ho.chg, ⟨fun k hk => ?_, ho.ext.R, ho.ext.keep, ho.ext.shape⟩, fun b hb => ?_, ho.R⟩⟩
 ·obtain ⟨hl, hd, _⟩ := gk b hb
  exact ⟨hl, hr.dom _ hd⟩
 ·obtain ⟨hl, hd, e⟩ := gk b hb
  rw [e]
  exact renB_ok (hr.blk _ hd)
 ·obtain ⟨hl, hd, _⟩ := gk b hb
  obtain ⟨hl', hd', _⟩ := gk b' hb'
  have := hr.inj _ _ hd hd' he
  rw [List.getD_eq_getElem?_getD, List.getD_eq_getElem?_getD, List.getElem?_eq_getElem hl, List.getElem?_eq_getElem hl'] at this
  have hp := List.pairwise_iff_getElem.1 hnd
  rcases Nat.lt_trichotomy b b' with h | h | h
  ·exact absurd this (hp b b' hl hl' h)
  ·exact h
  ·exact absurd this.symm (hp b' b hl' hl h)
 ·obtain ⟨hl, hd, _⟩ := gk b hb
  exact hr.out _ hd
 ·have hk0 := hn k (h0 k hk)
  obtain ⟨h4, h5⟩ := ho.ext.ι k hk
  have e : gl.getD k 0 = k := by simp [List.getD_eq_getElem?_getD, hk0]
  exact ⟨⟨(List.getElem?_eq_some_iff.1 hk0).1, by rw [e]; exact h4⟩, by simp only [renS, e]; exact h5⟩
 ·obtain ⟨hl, hd, _⟩ := gk b hb
  exact ho.loc _ hd
/-- What such a function's end is to be: what it made to be read is given up; the result and the memory say no less. -/
def finQ (P : Program) (n0 : Nat) (r : AV) (Ht : List AB) (v : AV) (H : List AB) : Prop := Good P (fun _ _ _ => False) (fun v' H' => ∃ gl : List Nat, (∀ k, k < n0 → gl[k]? = some k) ∧ gl.Nodup ∧ leAV (renA gl v') r ∧ leHs (gl.map (fun b => renB gl (rgv H' b))) Ht) (frzA H v fun v' l => .ret v' (killL l H))
theorem RunN.fin {n0 : Nat} {P : Program} {f : FuncId} {r : AV} {H Ht : List AB} {todo : List Item} {env : List AV} (h : RunN n0 P f (finQ P n0 r Ht) todo env H) : RunN n0 P f (fun v H' => v = r ∧ H' = Ht) todo env H := fun σ0 G0 W b a w cs h0 h1 h2 h3 => by
 obtain ⟨v, w', fr, r1, H', σ', q1, q2, q3, q4, q5, q6, q7⟩ := h σ0 G0 W b a w cs h0 h1 h2 h3
 obtain ⟨v', l, ⟨gl, g1, g2, g3, g4⟩, hlt, hfz⟩ := frzA_ok q1
 have hs := Stp.frz (G' := gv (killL l H')) (l := l) q3 (fun b hb => gv_kill hb)
 have e : updG (gv H') l (gv (killL l H')) = gv (killL l H') := updG_gv fun b hb => gv_kill_off hb
 have hrel := hs.rel q3
 have hout := q4.step q3 hs
 rw [e] at hrel hout
 have hv' : CA (fSD σ' (gv H') l) w' v' v := (hfz σ' (gv H') w' v l (fun _ h => h) (fun _ _ => rfl) q3 (q5.ext fS_ext)).ext fSD_ext
 obtain ⟨k1, k2⟩ := keep_rel gl g1 g2 h0 hrel hout
 obtain ⟨hl, hB⟩ := g4.to
 refine ⟨v, w', fr, r, Ht, renS gl (fSD σ' (gv H') l), ⟨rfl, rfl⟩, fun n hn => ?_, k1.le hB, k2.le hB, g3.to _ _ _ (renA_ok hv'), q6, q7⟩
 rw [← hl]
 simpa using hn.1
section
variable {P : Program} {f : Nat} {fn : Func} {body : Code} {args : List AV} {r : AV} {H Ht : List AB}
theorem AFunH.of_run2 (hf : P.funcs[f]? = some fn) (hb : fn.body = some body) (hn : (fn.name == "runtime.NumGoroutine") = false) (hl : args.length ≤ fn.ntmps)
  (ha : args.map (renA (List.range H.length)) = args) (hH : (List.range H.length).map (fun b => renB (List.range H.length) (rgv H b)) = H) (hle : H.length ≤ Ht.length)
  (h : FactsH args H → RunN H.length P f (fun v H' => v = r ∧ H' = Ht) [.code body] (args ++ List.replicate (fn.ntmps - args.length) .junk) H) : AFunH P f args H r Ht (List.range Ht.length) where
 len := hle
 lt := fun b hb => by simpa using hb
 off := fun b hb => by
  have hb : Ht.length ≤ b := by simpa using hb
  rw [gv_none (List.getElem?_eq_none hb), gv_none (List.getElem?_eq_none (by omega))]
 act := fun σ w vs hrel hfr hv => by
  left
  refine ⟨enters_of hf hn hb _ _, ?_⟩
  have rg : ∀ k, k < H.length → (List.range H.length).getD k 0 = k := fun k hk => by simp [List.getD_eq_getElem?_getD, List.getElem?_range hk]
  have lt_of : ∀ b, gv H b ≠ .dead → b < H.length := fun b hb => by
   rcases Nat.lt_or_ge b H.length with h | h
   ·exact h
   ·exact absurd (gv_none (List.getElem?_eq_none h)) hb
  have hv1 : All2 (CA (renS (List.range H.length) σ) w) args vs := by
   rw [← ha]
   exact ⟨by simpa using hv.1, fun i x y hx hy => by
    rw [List.getElem?_map] at hx
    obtain ⟨q, hq, rfl⟩ := Option.map_eq_some_iff.1 hx
    exact renA_ok (hv.2 i q y hq hy)⟩
  have hB : ∀ b, b < H.length → renB (List.range H.length) (gv H b) = gv H b := fun b hb => by
   have := congrArg (·[b]?) hH
   simp only [List.getElem?_map, List.getElem?_range hb, Option.map_some] at this
   have e2 : H[b]? = some (rgv H b) := by simp [rgv, List.getD_eq_getElem?_getD, List.getElem?_eq_getElem hb]
   rw [e2] at this
   injection this with this
   rw [gv_rgv, ← nrm_renB, this]
  have hrel1 : RelG (renS (List.range H.length) σ) (gv H) w := ⟨fun b hb => ⟨by simpa using lt_of b hb, by rw [rg b (lt_of b hb)]; exact hrel.dom b hb⟩, fun b hb => by
   have h1 := renB_ok (gl := List.range H.length) (hrel.blk b hb)
   rw [hB b (lt_of b hb)] at h1
   show Blk _ w (σ.ι ((List.range H.length).getD b 0)) _
   rw [rg b (lt_of b hb)]
   exact h1, fun b b' hb hb' he => hrel.inj b b' hb hb' (by
    have e1 := rg b (lt_of b hb)
    have e2 := rg b' (lt_of b' hb')
    simp only [renS, e1, e2] at he
    exact he), fun b hb => by
   have := hrel.out b hb
   simp only [renS, rg b (lt_of b hb)]
   exact this, hrel.rlt, hrel.glob⟩
  refine (calls_enter (n0 := H.length) (σ0 := renS (List.range H.length) σ) (fun k hk => by simpa using hk.1) hf hb hl (fun b hb => by simpa using hb.1) hrel1 hv1 (h ⟨_, w, vs, hv, hrel⟩)).mono fun e w' ⟨v, r1, H', σ', he, ⟨e1, e2⟩, q2, q3, q4, q5⟩ => ⟨v, he, ?_⟩
  subst e1; subst e2
  let σ2 : Sg := ⟨fun k => if k < H'.length then σ'.ι k else σ.ι k, fun k => σ.D k ∨ k < H'.length, σ'.R⟩
  have ιk : ∀ k, k < H'.length → σ2.ι k = σ'.ι k := fun k hk => by show (if k < H'.length then _ else _) = _; rw [if_pos hk]
  have hx : Ext σ' w' σ2 w' := ⟨fun k hk => ⟨.inr (q2 k hk), ιk k (q2 k hk)⟩, fun k hk => hk, fun _ _ _ => rfl, fun k c e fr h => ⟨c, fr, h, rfl⟩⟩
  have fp : ∀ k, fpAll (renS (List.range H.length) σ) (gv H) k → fpOf σ (gv H) (List.range H'.length) k := fun k ⟨b, hb, hk⟩ => by
   have hbl := lt_of b hb
   simp only [renS, rg b hbl] at hk
   exact ⟨b, by simp; omega, hb, hk⟩
  refine ⟨σ2, ⟨fun b => by simp [σ2], ⟨fun k hk => ⟨.inl hk, ?_⟩, q4.ext.R, q4.ext.keep, q4.ext.shape⟩, q4.chg.mono fp, fun b hb hd => ?_, fun b hb hd => ?_, fun b hb b' hb' hd hd' he => ?_, fun k hk => (q4.R k hk).imp id (Or.imp id (fp k)), fun b hb hd => ?_, q3.rlt⟩, q5.ext hx⟩
  ·rcases Nat.lt_or_ge k H'.length with hk1 | hk1
   ·rcases Nat.lt_or_ge k H.length with hk2 | hk2
    ·rw [ιk k hk1]
     have := (q4.ext.ι k ⟨by simpa using hk2, by rw [rg k hk2]; exact hk⟩).2
     rw [this]
     simp only [renS, rg k hk2]
    ·exact absurd hk (hfr k (by simpa using hk1) hk2)
   ·show (if k < H'.length then _ else _) = _
    rw [if_neg (by omega)]
  ·have hb1 : b < H'.length := by simpa using hb
   rw [ιk b hb1]
   exact (q3.blk _ hd).same hx rfl
  ·have hb1 : b < H'.length := by simpa using hb
   rw [ιk b hb1]
   rcases q4.loc _ hd with h | h
   ·exact .inl (fp _ h)
   ·exact .inr h
  ·have hb1 : b < H'.length := by simpa using hb
   have hb2 : b' < H'.length := by simpa using hb'
   rw [ιk b hb1, ιk b' hb2] at he
   exact q3.inj _ _ hd hd' he
  ·have hb1 : b < H'.length := by simpa using hb
   rw [ιk b hb1]
   exact q3.out _ hd
/-- By its abstract execution. -/
theorem AFunH.ofL (oc : Orc) (lv : LV) (n : Nat) (hf : P.funcs[f]? = some fn) (hm : P.follows .mixedOrders = true) (hb : fn.body = some body) (hn : (fn.name == "runtime.NumGoroutine") = false) (hl : args.length ≤ fn.ntmps)
  (ha : args.map (renA (List.range H.length)) = args) (hH : (List.range H.length).map (fun b => renB (List.range H.length) (rgv H b)) = H) (hle : H.length ≤ Ht.length) (T : Tree)
  (hT : aRun P oc fn lv n [.code body] (args ++ List.replicate (fn.ntmps - args.length) .junk) H = T)
  (h : FactsH args H → Good P (RunN H.length P f (finQ P H.length r Ht)) (finQ P H.length r Ht) T) : AFunH P f args H r Ht (List.range Ht.length) :=
 .of_run2 hf hb hn hl ha hH hle fun hF => RunN.fin (run_of hf hm n _ _ _ (by rw [hT]; exact h hF))
end
section
variable {P : Program} {S : List Item → List AV → List AB → Prop} {Q : AV → List AB → Prop}
theorem g_fin {n0 : Nat} {r : AV} {Ht : List AB} {v : AV} {H : List AB} (h : Good P (fun _ _ _ => False) (fun v' H' => ∃ gl : List Nat, (∀ k, k < n0 → gl[k]? = some k) ∧ gl.Nodup ∧ leAV (renA gl v') r ∧ leHs (gl.map (fun b => renB gl (rgv H' b))) Ht) (frzA H v fun v' l => .ret v' (killL l H))) : Good P S (finQ P n0 r Ht) (.ret v H) := h
theorem g_end {n0 : Nat} {r : AV} {Ht : List AB} {v : AV} {H : List AB} (gl : List Nat) (h1 : ∀ k, k < n0 → gl[k]? = some k) (h2 : gl.Nodup) (h3 : leAV (renA gl v) r) (h4 : leHs (gl.map (fun b => renB gl (rgv H b))) Ht) : Good P S (fun v' H' => ∃ gl : List Nat, (∀ k, k < n0 → gl[k]? = some k) ∧ gl.Nodup ∧ leAV (renA gl v') r ∧ leHs (gl.map (fun b => renB gl (rgv H' b))) Ht) (.ret v H) := ⟨gl, h1, h2, h3, h4⟩
end
theorem AFunH.frameB {P : Program} {f : Nat} {args args2 : List AV} {H H2 Ht H2' : List AB} {r r2 : AV} {wr2 : List Nat} (gl : List Nat) (h : AFunH P f args H r Ht (List.range Ht.length)) (hnd : decide gl.Nodup = true) (hlt : (gl.all fun b => Nat.blt b H2.length) = true)
  (hH : gl.map (rgv H2) = H.map (upB (gmap gl H2.length))) (ha : args2 = args.map (upA (gmap gl H2.length))) (hr : r2 = upA (gmap gl H2.length) r) (hH' : H2' = frameOut gl H2 Ht) (hw : wr2 = frameWr gl H2.length Ht.length) : AFunH P f args2 H2 r2 H2' wr2 :=
 h.frame gl (of_decide_eq_true hnd) (fun b hb => Nat.le_of_ble_eq_true (List.all_eq_true.1 hlt b hb)) hH ha hr hH' hw
theorem leAVs.same : ∀ {l l' : List AV}, l = l' → leAVs l l'
 | [], _, h => by subst h; trivial
 | a :: r, _, h => by subst h; exact ⟨leAV.refl a, leAVs.same rfl⟩
theorem leAVs.skip : ∀ (n : Nat) {l l' : List AV}, l.take n = l'.take n → leAVs (l.drop n) (l'.drop n) → leAVs l l'
 | 0, _, _, _, h => h
 | n + 1, [], [], _, h => h
 | n + 1, a :: r, b :: s, h, h' => by
  simp only [List.take_succ_cons, List.cons.injEq] at h
  obtain ⟨rfl, h⟩ := h
  exact ⟨leAV.refl a, leAVs.skip n h h'⟩
 | n + 1, [], b :: s, h, _ => by simp at h
 | n + 1, a :: r, [], h, _ => by simp at h
/-! what a callee's memory is, in its caller's -/
def ovecAs (e : TypeId) (t : Ty) : Option AB → Option (List t.El)
 | some (.ovec e' t' xs) => if h : t' = t then (if Nat.beq e' e then some (h ▸ xs) else none) else none
 | _ => none
def vecAs (e : TypeId) (t : Ty) : Option AB → Option (List t.El)
 | some (.vec e' t' xs) => if h : t' = t then (if Nat.beq e' e then some (h ▸ xs) else none) else none
 | _ => none
def cellsAs (e : TypeId) : Option AB → Option (List CV)
 | some (.cells e' cs) => if Nat.beq e' e then some cs else none
 | _ => none
def dC (t : Ty) (c : CV) : Option t.El := match t.dec [c] with
 | some (x, []) => some x
 | _ => none
def hres (gl : List Nat) (H : List AB) (r : AV) (Ht : List AB) : Option (AV × List AB × List Nat) := some (upA (gmap gl H.length) r, frameOut gl H Ht, frameWr gl H.length Ht.length)
end Go.Proofs.YtefkifdhjabdiaaDoor
namespace Go.Proofs.YtefkifdhjabdiaaDoor
set_option linter.unusedVariables false
set_option linter.unusedSimpArgs false
open Go.RowKit
theorem AFunH.ofPro {P : Program} {f g : Nat} {t u : Ty} {ys : List t.El} {xs : List u.El} {e e2 : TypeId} {n b0 b1 : Nat} {r : AV} {H : List AB}
  (h : AFun P f [.c (.ro t ys), .c (.fnc (.fn0 g) (.pro (.slice u) [xs] 0 0))] r) (hr : r.flat = true) (h0 : gv H b0 = .cells e [.sl b1 u.sz 0 n]) (h1 : gv H b1 = .vec e2 u xs) (hn : n = xs.length) :
  AFunH P f [.c (.ro t ys), .c (.fnc (.fn0 g) (.ptr b0 0 0 0))] H r H [] where
 len := Nat.le_refl _
 lt := fun b hb => by cases hb
 off := fun _ _ => rfl
 act := fun σ w vs hrel hD hv => by
  obtain ⟨x0, r0, rfl, q0, hr0⟩ := hv.cons_of
  obtain ⟨x1, r1, rfl, q1, hr1⟩ := hr0.cons_of
  obtain rfl := List.eq_nil_of_length_eq_zero hr1.1.symm
  obtain ⟨f', cs, u', rfl, hf, hD0, rfl⟩ := q1
  have hB := hrel.blk b0 (by rw [h0]; simp)
  rw [h0] at hB
  obtain ⟨c, hc, hcs⟩ := hB
  obtain ⟨v0, rr, hv0, k0, k1⟩ := hcs.cons_of
  obtain rfl := List.eq_nil_of_length_eq_zero k1.1.symm
  have hro : CC (fS σ (gv H) [b0, b1]) w (.ro u xs) v0 := vec_reads hrel h1 hn k0 (by simp)
  have hR0 : fR σ (gv H) [b0, b1] (σ.ι b0) := .inr ⟨b0, by simp, by rw [h0]; simp, rfl⟩
  have hpro : (Rd.slice (Ty.slice u).rd).K (fR σ (gv H) [b0, b1]) w [xs] [.slice (some ⟨σ.ι b0, 0, none⟩) 1 1] := by
   refine ⟨some ⟨σ.ι b0, 0, none⟩, 1, rfl, Nat.le_refl _, by omega, by simp, rfl, by simp, fun _ => ⟨_, rfl, hR0, (Array.getElem?_eq_some_iff.1 hc).1, fun i x hi => ?_⟩⟩
   have hi0 : i = 0 := by
    have := (List.getElem?_eq_some_iff.1 hi).1
    simp at this
    omega
   subst hi0
   simp at hi
   subst hi
   refine ⟨[v0], hro, fun j u hj => ?_⟩
   have hj0 : j = 0 := by
    have := (List.getElem?_eq_some_iff.1 hj).1
    simp at this
    omega
   subst hj0
   rw [add_eq rfl, cell_row hc, hv0]
   simpa using hj
  have h2 : All2 (CA ⟨id, fun _ => False, fR σ (gv H) [b0, b1]⟩ w) [.c (.ro t ys), .c (.fnc (.fn0 g) (.pro (.slice u) [xs] 0 0))] [x0, .func (.func f') #[] (cs.push (.pointer (some ⟨σ.ι b0, 0 * 0 + 0, none⟩)))] :=
   .cons ((Rd.slice t.rd).mono (fun k hk => .inl hk) q0) (.cons ⟨f', cs, _, rfl, hf, ⟨_, 1, hpro, by simp, by simp⟩⟩ .nil)
  have hst : ∀ w', Below w.heap.size w w' → Stp σ (gv H) w [] (gv H) σ w' := fun w' hb => Stp.quiet (fun _ => Iff.rfl) rfl (fun _ h => h) hb (fun _ h => .inl h) fun k hk => Nat.lt_of_lt_of_le (hrel.rlt k hk) hb.size
  have h3 := h (fR σ (gv H) [b0, b1]) w _ (fun k hk => by
   rcases hk with hk | ⟨b, hb, ha, e⟩
   ·exact hrel.rlt k hk
   ·rw [← e]; exact (hrel.blk b ha).lt ha) (hrel.glob.mono fun k h => .inl h) h2
  rcases h3 with ⟨hen, hc⟩ | ⟨v, w', hval, hb, hv⟩
  ·exact .inl ⟨hen, hc.mono fun e w' ⟨v, he, hb, hv⟩ => ⟨v, he, σ, hst w' hb, CA.flat hr hv _ _⟩⟩
  ·exact .inr ⟨v, w', hval, σ, hst w' hb, CA.flat hr hv _ _⟩
/-- Cells as data. -/
def dCs (t : Ty) (cs : List CV) : Option t.El := match t.dec cs with
 | some (x, []) => some x
 | _ => none
/-- A block as a map of given types. -/
def mapAs (k : TypeId) (kt et : Ty) : Option AB → Option (Nat × (kt.El → Option et.El))
 | some (.map k' kt' et' n m) => if h : kt' = kt ∧ et' = et then (if Nat.beq k' k then some (n, cast (by rw [h.1, h.2]) m) else none) else none
 | _ => none
end Go.Proofs.YtefkifdhjabdiaaDoor
namespace Go.Proofs.YtefkifdhjabdiaaDoor
set_option maxHeartbeats 4000000
set_option linter.unusedVariables false
set_option linter.unusedSimpArgs false
set_option maxRecDepth 100000
theorem ask_ahead {p : EProg} {t : ETrace} (hc : CheckOk p t) {i : Nat} (hi : i < t.2.2.2.1.length) {k : Nat} (hk : k < (askF (t.2.2.2.1.getD i tIns.dflt)).length) : 0 ≤ (askF (t.2.2.2.1.getD i tIns.dflt)).getD k tI.dflt ∧ (askF (t.2.2.2.1.getD i tIns.dflt)).getD k tI.dflt < (i : Int) := by
 have ex : t.2.2.2.1[i]? = some (t.2.2.2.1.getD i tIns.dflt) := by rw [List.getD_eq_getElem?_getD, List.getElem?_eq_getElem hi]; rfl
 obtain ⟨h1, h2⟩ := hc.ins i _ ex
 unfold formedF at h2
 rw [Bool.and_eq_true] at h2
 have hm := getD_mem (α := Int) (Ty.dflt tI) hk
 unfold askF at hm
 rw [if_pos h1] at hm
 have e : askF (t.2.2.2.1.getD i tIns.dflt) = [(t.2.2.2.1.getD i tIns.dflt).2.1, (t.2.2.2.1.getD i tIns.dflt).2.2.1, (t.2.2.2.1.getD i tIns.dflt).2.2.2.1].take (ofF (t.2.2.2.1.getD i tIns.dflt).1).1.1.toNat := if_pos h1
 rw [e]
 obtain ⟨q0, q1, _⟩ := valueF_in (List.all_eq_true.1 h2.1 _ hm)
 exact ⟨q0, q1⟩
noncomputable def oc95 : Orc where
 pure := fun f args => match f, args with
  | 18, [a0] => match dA tIns a0 with
   | some x0 => some (.c (.ro tI (askF x0)))
   | _ => none
  | _, _ => none
 heap := fun _ _ _ => none
def fine_lv : LV := ⟨(F2 (false :: true :: F4 (true :: true :: true :: F4 (false :: true :: true :: true :: F8 (F4 ([])))))), []⟩
noncomputable def fine_T (t : ETrace) : Tree :=
 .stop (lp (bodyOf Tryd.f61) 0) (J8 (.c (.ro tIns t.2.2.2.1) :: .c (.int .i64 (t.2.2.2.1.length : Int)) :: .c (.int .i64 0) :: J16 (J4 ([])))) [.cells 29 (Ty.enc tTrace t)]
theorem fine_T_ok (t : ETrace) : aRun Tryd.prog oc95 Tryd.f61 fine_lv 3000 [.code (bodyOf Tryd.f61)] ([.agg (tTrace.enc t)] ++ List.replicate (Func.ntmps Tryd.f61 - 1) .junk) [] = fine_T t := by kernel_rfl
noncomputable def fine_l1_R (t : ETrace) (i : Nat) (k : Nat) : Tree :=
 .ite (decide (((k : Nat) : Int) < ((askF (t.2.2.2.1.getD i tIns.dflt)).length : Int)))
 (.need ((0 : Int) ≤ ((k : Nat) : Int) ∧ (((k : Nat) : Int) : Int) < ((askF (t.2.2.2.1.getD i tIns.dflt)).length : Int)) <|
  .need (k < (askF (t.2.2.2.1.getD i tIns.dflt)).length) <|
  .ite (decide (((askF (t.2.2.2.1.getD i tIns.dflt)).getD k tI.dflt) < 0))
  (.ret (.c (.lit false)) [])
  (.ite (decide (((i : Nat) : Int) ≤ ((askF (t.2.2.2.1.getD i tIns.dflt)).getD k tI.dflt)))
  (.ret (.c (.lit false)) [])
  (.need (inR .i64 (((k : Nat) : Int) + 1)) <|
   .stop (lp (bodyOf Tryd.f61) 1) (J2 (.junk :: .c (.int .i64 ((i : Nat) : Int)) :: J4 (.c (.ro tIns t.2.2.2.1) :: .c (.int .i64 (t.2.2.2.1.length : Int)) :: .c (.int .i64 ((i : Nat) : Int)) :: J4 (.junk :: .c (.ro tI (askF (t.2.2.2.1.getD i tIns.dflt))) :: .c (.int .i64 ((askF (t.2.2.2.1.getD i tIns.dflt)).length : Int)) :: .c (.int .i64 (((k : Nat) : Int) + 1)) :: J8 (J4 ([])))))) [])))
 (.need (inR .i64 (((i : Nat) : Int) + 1)) <|
  .stop (lp (bodyOf Tryd.f61) 0) (J2 (.junk :: .c (.int .i64 ((i : Nat) : Int)) :: J4 (.c (.ro tIns t.2.2.2.1) :: .c (.int .i64 (t.2.2.2.1.length : Int)) :: .c (.int .i64 (((i : Nat) : Int) + 1)) :: J4 (.junk :: .c (.ro tI (askF (t.2.2.2.1.getD i tIns.dflt))) :: .c (.int .i64 ((askF (t.2.2.2.1.getD i tIns.dflt)).length : Int)) :: .c (.int .i64 ((k : Nat) : Int)) :: J8 (J4 ([])))))) [])
theorem fine_l1_R_ok (t : ETrace) (i : Nat) (k : Nat) : aRound Tryd.prog oc95 Tryd.f61 fine_lv 3000 (lp (bodyOf Tryd.f61) 1) (J2 (.junk :: .c (.int .i64 ((i : Nat) : Int)) :: J4 (.c (.ro tIns t.2.2.2.1) :: .c (.int .i64 (t.2.2.2.1.length : Int)) :: .c (.int .i64 ((i : Nat) : Int)) :: J4 (.junk :: .c (.ro tI (askF (t.2.2.2.1.getD i tIns.dflt))) :: .c (.int .i64 ((askF (t.2.2.2.1.getD i tIns.dflt)).length : Int)) :: .c (.int .i64 ((k : Nat) : Int)) :: J8 (J4 ([])))))) [] = fine_l1_R t i k := by kernel_rfl
noncomputable def fine_l0_R (t : ETrace) (i : Nat) : Tree :=
 .ite (decide (((i : Nat) : Int) < (t.2.2.2.1.length : Int)))
 (.need ((0 : Int) ≤ ((i : Nat) : Int) ∧ (((i : Nat) : Int) : Int) < (t.2.2.2.1.length : Int)) <|
  .need (i < t.2.2.2.1.length) <|
  .call 18 [.agg [.int .i64 (t.2.2.2.1.getD i tIns.dflt).1, .int .i64 (t.2.2.2.1.getD i tIns.dflt).2.1, .int .i64 (t.2.2.2.1.getD i tIns.dflt).2.2.1, .int .i64 (t.2.2.2.1.getD i tIns.dflt).2.2.2.1, .int .i64 (t.2.2.2.1.getD i tIns.dflt).2.2.2.2.1, .int .i64 (t.2.2.2.1.getD i tIns.dflt).2.2.2.2.2.1, .int .i64 (t.2.2.2.1.getD i tIns.dflt).2.2.2.2.2.2.1, .int .i64 (t.2.2.2.1.getD i tIns.dflt).2.2.2.2.2.2.2]] false (.c (.ro tI (askF (t.2.2.2.1.getD i tIns.dflt)))) <|
  .stop (lp (bodyOf Tryd.f61) 1) (J2 (.junk :: .c (.int .i64 ((i : Nat) : Int)) :: J4 (.c (.ro tIns t.2.2.2.1) :: .c (.int .i64 (t.2.2.2.1.length : Int)) :: .c (.int .i64 ((i : Nat) : Int)) :: J4 (.junk :: .c (.ro tI (askF (t.2.2.2.1.getD i tIns.dflt))) :: .c (.int .i64 ((askF (t.2.2.2.1.getD i tIns.dflt)).length : Int)) :: .c (.int .i64 0) :: J8 (J4 ([])))))) [.cells 46 [.int .i64 (t.2.2.2.1.getD i tIns.dflt).1, .int .i64 (t.2.2.2.1.getD i tIns.dflt).2.1, .int .i64 (t.2.2.2.1.getD i tIns.dflt).2.2.1, .int .i64 (t.2.2.2.1.getD i tIns.dflt).2.2.2.1, .int .i64 (t.2.2.2.1.getD i tIns.dflt).2.2.2.2.1, .int .i64 (t.2.2.2.1.getD i tIns.dflt).2.2.2.2.2.1, .int .i64 (t.2.2.2.1.getD i tIns.dflt).2.2.2.2.2.2.1, .int .i64 (t.2.2.2.1.getD i tIns.dflt).2.2.2.2.2.2.2]])
 (.ret (.c (.lit true)) [])
theorem fine_l0_R_ok (t : ETrace) (i : Nat) : aRound Tryd.prog oc95 Tryd.f61 fine_lv 3000 (lp (bodyOf Tryd.f61) 0) (J8 (.c (.ro tIns t.2.2.2.1) :: .c (.int .i64 (t.2.2.2.1.length : Int)) :: .c (.int .i64 ((i : Nat) : Int)) :: J16 (J4 ([])))) [] = fine_l0_R t i := by kernel_rfl
theorem fine_l1 (t : ETrace) (i : Nat) (k : Nat) (p : EProg) (hc : CheckOk p t) (hi : i < t.2.2.2.1.length) (hn : Run Tryd.prog 61 (retQ Tryd.prog (.c (.bool (true)))) (lp (bodyOf Tryd.f61) 0) (J8 (.c (.ro tIns t.2.2.2.1) :: .c (.int .i64 (t.2.2.2.1.length : Int)) :: .c (.int .i64 (((i + 1) : Nat) : Int)) :: J16 (J4 ([])))) []) : Run Tryd.prog 61 (retQ Tryd.prog (.c (.bool (true)))) (lp (bodyOf Tryd.f61) 1) (J2 (.junk :: .c (.int .i64 ((i : Nat) : Int)) :: J4 (.c (.ro tIns t.2.2.2.1) :: .c (.int .i64 (t.2.2.2.1.length : Int)) :: .c (.int .i64 ((i : Nat) : Int)) :: J4 (.junk :: .c (.ro tI (askF (t.2.2.2.1.getD i tIns.dflt))) :: .c (.int .i64 ((askF (t.2.2.2.1.getD i tIns.dflt)).length : Int)) :: .c (.int .i64 ((k : Nat) : Int)) :: J8 (J4 ([])))))) [] :=
 Run.roundA oc95 fine_lv 3000 Tryd.func61 mixed (fine_l1_R t i k) (fine_l1_R_ok t i k) (by
  unfold fine_l1_R
  refine g_iteD (fun h0 => ?_) (fun h0 => ?_)
  ·refine g_need (by omega) ?_
   refine g_need (by omega) ?_
   refine g_iteD (fun h1 => ?_) (fun h1 => ?_)
   ·refine g_rq ?_
    exact g_rl ((show (false : Bool) = true from by have q := ask_ahead hc hi (k := k) (by omega); exfalso; omega)) rfl
   ·refine g_iteD (fun h2 => ?_) (fun h2 => ?_)
    ·refine g_rq ?_
     exact g_rl ((show (false : Bool) = true from by have q := ask_ahead hc hi (k := k) (by omega); exfalso; omega)) rfl
    ·refine g_need (by first | omega | (have := hc.n; rw [i64_iff]; omega) | (have := askF_le (t.2.2.2.1.getD i tIns.dflt); rw [i64_iff]; omega)) ?_
     refine g_stop (RunN.keep [] (F2 (false :: true :: F4 (true :: true :: true :: F4 (false :: true :: true :: true :: F8 (F4 ([])))))) n0 (by decide) rfl rfl ?_)
     exact fine_l1 t i (k + 1) p hc hi hn
  ·refine g_need (by first | omega | (have := hc.n; rw [i64_iff]; omega) | (have := askF_le (t.2.2.2.1.getD i tIns.dflt); rw [i64_iff]; omega)) ?_
   refine g_stop (RunN.keep [] (F8 (true :: true :: true :: F16 (F4 ([])))) n0 (by decide) rfl rfl ?_)
   exact hn
  )
 termination_by (askF (t.2.2.2.1.getD i tIns.dflt)).length - k
 decreasing_by all_goals omega
theorem fine_l0 (t : ETrace) (i : Nat) (p : EProg) (hc : CheckOk p t) : Run Tryd.prog 61 (retQ Tryd.prog (.c (.bool (true)))) (lp (bodyOf Tryd.f61) 0) (J8 (.c (.ro tIns t.2.2.2.1) :: .c (.int .i64 (t.2.2.2.1.length : Int)) :: .c (.int .i64 ((i : Nat) : Int)) :: J16 (J4 ([])))) [] :=
 Run.roundA oc95 fine_lv 3000 Tryd.func61 mixed (fine_l0_R t i) (fine_l0_R_ok t i) (by
  unfold fine_l0_R
  refine g_iteD (fun h0 => ?_) (fun h0 => ?_)
  ·refine g_need (by omega) ?_
   refine g_need (by omega) ?_
   refine g_call (asks_fun (t.2.2.2.1.getD i tIns.dflt)) (fun h => nomatch h) ?_
   refine g_stop (RunN.keep [] (F2 (false :: true :: F4 (true :: true :: true :: F4 (false :: true :: true :: true :: F8 (F4 ([])))))) n0 (by decide) rfl rfl ?_)
   exact fine_l1 t i 0 p hc (by omega) (fine_l0 t (i + 1) p hc)
  ·refine g_rq ?_
   exact g_rl (rfl) rfl
  )
 termination_by t.2.2.2.1.length - i
 decreasing_by all_goals omega
theorem fine_fun (t : ETrace) {p : EProg} (hc : CheckOk p t) : AFun Tryd.prog 61 [.agg (tTrace.enc t)] (.c (.bool (true))) :=
 AFun.of oc95 fine_lv 3000 Tryd.func61 mixed rfl (by decide) (Nat.le_of_ble_eq_true rfl) _ (fine_T_ok t) fun hF => by
  unfold fine_T
  refine g_stop (RunN.keep [] (F8 (true :: true :: true :: F16 (F4 ([])))) n0 (by decide) rfl rfl ?_)
  exact fine_l0 t 0 p hc

noncomputable def oc96 : Orc where
 pure := fun f args => match f, args with
  | _, _ => none
 heap := fun _ _ _ => none
def spanall_lv : LV := ⟨([]), []⟩
noncomputable def spanall_T  : Tree :=
 .ret (.agg [.int .i64 (-2147483648), .int .i64 2147483647]) [.cells 130 [.int .i64 (-2147483648), .int .i64 2147483647]]
theorem spanall_T_ok  : aRun Tryd.prog oc96 Tryd.f127 spanall_lv 3000 [.code (bodyOf Tryd.f127)] ([] ++ List.replicate (Func.ntmps Tryd.f127 - 0) .junk) [] = spanall_T  := by kernel_rfl
theorem spanall_fun  : AFun Tryd.prog 127 [] (.agg (Ty.enc tVal ((-2147483648, 2147483647)))) :=
 AFun.of oc96 spanall_lv 3000 Tryd.func127 mixed rfl (by decide) (Nat.le_of_ble_eq_true rfl) _ (spanall_T_ok ) fun hF => by
  unfold spanall_T
  refine g_rq ?_
  exact g_rl (⟨⟨rfl, (show ((-2147483648) : Int) = (-2147483648, 2147483647).1 from by rfl)⟩, ⟨rfl, (show (2147483647 : Int) = (-2147483648, 2147483647).2 from by rfl)⟩, trivial⟩) rfl

def cutN (n : Int) : Int := if 2147483647 < (if -2147483648 > n then -2147483648 else n) then 2147483647 else (if -2147483648 > n then -2147483648 else n)
noncomputable def oc97 : Orc where
 pure := fun f args => match f, args with
  | _, _ => none
 heap := fun _ _ _ => none
def spancut_lv : LV := ⟨([]), []⟩
noncomputable def spancut_T (n : Int) : Tree :=
 .need (inR .i64 (-2147483648)) <|
 .need (inR .i64 2147483647) <|
 .ret (.c (.int .i64 (if 2147483647 < (if (-2147483648) > n then (-2147483648) else n) then 2147483647 else (if (-2147483648) > n then (-2147483648) else n)))) []
theorem spancut_T_ok (n : Int) : aRun Tryd.prog oc97 Tryd.f128 spancut_lv 3000 [.code (bodyOf Tryd.f128)] ([.c (.int .i64 n)] ++ List.replicate (Func.ntmps Tryd.f128 - 1) .junk) [] = spancut_T n := by kernel_rfl
theorem spancut_fun (n : Int) : AFun Tryd.prog 128 [.c (.int .i64 n)] (.c (.int .i64 (cutN n))) :=
 AFun.of oc97 spancut_lv 3000 Tryd.func128 mixed rfl (by decide) (Nat.le_of_ble_eq_true rfl) _ (spancut_T_ok n) fun hF => by
  unfold spancut_T
  refine g_need (i64_iff.2 (by omega)) ?_
  refine g_need (i64_iff.2 (by omega)) ?_
  exact g_reti (by first | rfl | simp [cutN])

end Go.Proofs.YtefkifdhjabdiaaDoor
namespace Go.Proofs.YtefkifdhjabdiaaDoor
set_option maxHeartbeats 4000000
set_option linter.unusedVariables false
set_option linter.unusedSimpArgs false
set_option maxRecDepth 100000
def ownK (kind : Int → Int) (x : EIns) : Int :=
 if x.1 = 2 then x.2.2.2.2.2.2.1 else if x.1 = 15 then 2 else if x.1 = 16 then 5 else if x.1 = 18 then 5 else
 if x.1 = 7 ∨ x.1 = 8 then (if 8 ≤ x.2.2.2.2.1 ∧ x.2.2.2.2.1 ≤ 10 ∧ x.1 = 7 ∨ x.2.2.2.2.1 = 11 ∧ x.1 = 8 then 1 else if kind x.2.1 = 2 ∨ kind x.2.1 = 3 then kind x.2.1 else -1) else -1
def scanK (v : Int) : List EIns → Int
 | [] => -1
 | x :: r => if x.2.1 = v then (if x.1 = 4 then x.2.2.2.2.1 else if x.1 = 6 then x.2.2.2.2.2.2.1 else if x.1 = 9 then 5 else scanK v r) else scanK v r
def kindN (t : ETrace) : Nat → Int → Int → Int
 | 0, _, _ => -1
 | n + 1, v, a => if v < 0 then -1 else if a ≤ v then -1 else if (t.2.2.2.1.length : Int) < a then -1 else if tellF (t.2.2.2.1.getD v.toNat tIns.dflt).1 = false then -1 else
  if 0 ≤ ownK (fun b => kindN t n b v) (t.2.2.2.1.getD v.toNat tIns.dflt) then ownK (fun b => kindN t n b v) (t.2.2.2.1.getD v.toNat tIns.dflt) else scanK v ((t.2.2.2.1.take a.toNat).drop (v + 1).toNat)
noncomputable def oc24 (n : Nat) : Orc where
 pure := fun f args => match f, args with
  | 21, [a0, a1, a2] => match dA tTrace a0, dA tI a1, dA tI a2 with
   | some x0, some x1, some x2 => some (.c (.int .i64 (kindN x0 n x1 x2)))
   | _, _, _ => none
  | _, _ => none
 heap := fun _ _ _ => none
def own_lv : LV := ⟨(false :: true :: true :: F2 (true :: F32 (F16 (F8 ([]))))), [12]⟩
abbrev bCn0 (t : ETrace) (v : Int) : AB := .cells 46 [.int .i64 (t.2.2.2.1.getD (Int.toNat v) tIns.dflt).1, .int .i64 (t.2.2.2.1.getD (Int.toNat v) tIns.dflt).2.1, .int .i64 (t.2.2.2.1.getD (Int.toNat v) tIns.dflt).2.2.1, .int .i64 (t.2.2.2.1.getD (Int.toNat v) tIns.dflt).2.2.2.1, .int .i64 (t.2.2.2.1.getD (Int.toNat v) tIns.dflt).2.2.2.2.1, .int .i64 (t.2.2.2.1.getD (Int.toNat v) tIns.dflt).2.2.2.2.2.1, .int .i64 (t.2.2.2.1.getD (Int.toNat v) tIns.dflt).2.2.2.2.2.2.1, .int .i64 (t.2.2.2.1.getD (Int.toNat v) tIns.dflt).2.2.2.2.2.2.2]
noncomputable def own_T (t : ETrace) (n : Nat) (v : Int) : Tree :=
 .need ((0 : Int) ≤ v ∧ (v : Int) < (t.2.2.2.1.length : Int)) <|
 .need ((Int.toNat v) < t.2.2.2.1.length) <|
 .ite (decide ((t.2.2.2.1.getD (Int.toNat v) tIns.dflt).1 = 2))
 (.ret (.c (.int .i64 (t.2.2.2.1.getD (Int.toNat v) tIns.dflt).2.2.2.2.2.2.1)) [.cells 29 (Ty.enc tTrace t), (bCn0 t v)])
 (.ite (decide ((t.2.2.2.1.getD (Int.toNat v) tIns.dflt).1 = 15))
  (.ret (.c (.int .i64 2)) [.cells 29 (Ty.enc tTrace t), (bCn0 t v)])
  (.ite (decide ((t.2.2.2.1.getD (Int.toNat v) tIns.dflt).1 = 16))
  (.ite (decide ((t.2.2.2.1.getD (Int.toNat v) tIns.dflt).1 = 16))
   (.ret (.c (.int .i64 5)) [.cells 29 (Ty.enc tTrace t), (bCn0 t v)])
   (.ite (decide ((t.2.2.2.1.getD (Int.toNat v) tIns.dflt).1 = 7))
   (.ite (decide ((t.2.2.2.1.getD (Int.toNat v) tIns.dflt).1 = 7))
    (.stop (rg (bodyOf Tryd.f47) 12) (.junk :: .c (.int .i64 v) :: .c (.ptr 0 0 0 0) :: J2 (.c (.ptr 1 0 0 0) :: J32 (J16 (J8 ([]))))) [.cells 29 (Ty.enc tTrace t), (bCn0 t v)])
    (.ret (.c (.int .i64 (-1))) [.cells 29 (Ty.enc tTrace t), (bCn0 t v)]))
   (.ite (decide ((t.2.2.2.1.getD (Int.toNat v) tIns.dflt).1 = 8))
    (.stop (rg (bodyOf Tryd.f47) 12) (.junk :: .c (.int .i64 v) :: .c (.ptr 0 0 0 0) :: J2 (.c (.ptr 1 0 0 0) :: J32 (J16 (J8 ([]))))) [.cells 29 (Ty.enc tTrace t), (bCn0 t v)])
    (.ret (.c (.int .i64 (-1))) [.cells 29 (Ty.enc tTrace t), (bCn0 t v)]))))
  (.ite (decide ((t.2.2.2.1.getD (Int.toNat v) tIns.dflt).1 = 18))
   (.ret (.c (.int .i64 5)) [.cells 29 (Ty.enc tTrace t), (bCn0 t v)])
   (.ite (decide ((t.2.2.2.1.getD (Int.toNat v) tIns.dflt).1 = 7))
   (.ite (decide ((t.2.2.2.1.getD (Int.toNat v) tIns.dflt).1 = 7))
    (.stop (rg (bodyOf Tryd.f47) 12) (.junk :: .c (.int .i64 v) :: .c (.ptr 0 0 0 0) :: J2 (.c (.ptr 1 0 0 0) :: J32 (J16 (J8 ([]))))) [.cells 29 (Ty.enc tTrace t), (bCn0 t v)])
    (.ret (.c (.int .i64 (-1))) [.cells 29 (Ty.enc tTrace t), (bCn0 t v)]))
   (.ite (decide ((t.2.2.2.1.getD (Int.toNat v) tIns.dflt).1 = 8))
    (.stop (rg (bodyOf Tryd.f47) 12) (.junk :: .c (.int .i64 v) :: .c (.ptr 0 0 0 0) :: J2 (.c (.ptr 1 0 0 0) :: J32 (J16 (J8 ([]))))) [.cells 29 (Ty.enc tTrace t), (bCn0 t v)])
    (.ret (.c (.int .i64 (-1))) [.cells 29 (Ty.enc tTrace t), (bCn0 t v)]))))))
theorem own_T_ok (t : ETrace) (n : Nat) (v : Int) : aRun Tryd.prog (oc24 n) Tryd.f47 own_lv 3000 [.code (bodyOf Tryd.f47)] ([.agg (tTrace.enc t), .c (.int .i64 v)] ++ List.replicate (Func.ntmps Tryd.f47 - 2) .junk) [] = own_T t n v := by kernel_rfl
noncomputable def own_r12_R (t : ETrace) (n : Nat) (v : Int) : Tree :=
 .ite (decide ((8 : Int) ≤ (t.2.2.2.1.getD (Int.toNat v) tIns.dflt).2.2.2.2.1))
 (.ite (decide ((t.2.2.2.1.getD (Int.toNat v) tIns.dflt).2.2.2.2.1 ≤ 10))
  (.ite (decide ((t.2.2.2.1.getD (Int.toNat v) tIns.dflt).1 = 7))
  (.ret (.c (.int .i64 1)) [.cells 29 (Ty.enc tTrace t), (bCn0 t v)])
  (.ite (decide ((t.2.2.2.1.getD (Int.toNat v) tIns.dflt).2.2.2.2.1 = 11))
   (.ite (decide ((t.2.2.2.1.getD (Int.toNat v) tIns.dflt).1 = 8))
   (.ret (.c (.int .i64 1)) [.cells 29 (Ty.enc tTrace t), (bCn0 t v)])
   (.call 21 [.agg (Ty.enc tTrace t), .c (.int .i64 (t.2.2.2.1.getD (Int.toNat v) tIns.dflt).2.1), .c (.int .i64 v)] false (.c (.int .i64 (kindN t n (t.2.2.2.1.getD (Int.toNat v) tIns.dflt).2.1 v))) <|
    .ite (decide (kindN t n (t.2.2.2.1.getD (Int.toNat v) tIns.dflt).2.1 v = 2))
    (.ret (.c (.int .i64 (kindN t n (t.2.2.2.1.getD (Int.toNat v) tIns.dflt).2.1 v))) [.cells 29 (Ty.enc tTrace t), (bCn0 t v)])
    (.ite (decide (kindN t n (t.2.2.2.1.getD (Int.toNat v) tIns.dflt).2.1 v = 3))
    (.ret (.c (.int .i64 (kindN t n (t.2.2.2.1.getD (Int.toNat v) tIns.dflt).2.1 v))) [.cells 29 (Ty.enc tTrace t), (bCn0 t v)])
    (.ret (.c (.int .i64 (-1))) [.cells 29 (Ty.enc tTrace t), (bCn0 t v)]))))
   (.call 21 [.agg (Ty.enc tTrace t), .c (.int .i64 (t.2.2.2.1.getD (Int.toNat v) tIns.dflt).2.1), .c (.int .i64 v)] false (.c (.int .i64 (kindN t n (t.2.2.2.1.getD (Int.toNat v) tIns.dflt).2.1 v))) <|
   .ite (decide (kindN t n (t.2.2.2.1.getD (Int.toNat v) tIns.dflt).2.1 v = 2))
   (.ret (.c (.int .i64 (kindN t n (t.2.2.2.1.getD (Int.toNat v) tIns.dflt).2.1 v))) [.cells 29 (Ty.enc tTrace t), (bCn0 t v)])
   (.ite (decide (kindN t n (t.2.2.2.1.getD (Int.toNat v) tIns.dflt).2.1 v = 3))
    (.ret (.c (.int .i64 (kindN t n (t.2.2.2.1.getD (Int.toNat v) tIns.dflt).2.1 v))) [.cells 29 (Ty.enc tTrace t), (bCn0 t v)])
    (.ret (.c (.int .i64 (-1))) [.cells 29 (Ty.enc tTrace t), (bCn0 t v)])))))
  (.ite (decide ((t.2.2.2.1.getD (Int.toNat v) tIns.dflt).2.2.2.2.1 = 11))
  (.ite (decide ((t.2.2.2.1.getD (Int.toNat v) tIns.dflt).1 = 8))
   (.ret (.c (.int .i64 1)) [.cells 29 (Ty.enc tTrace t), (bCn0 t v)])
   (.call 21 [.agg (Ty.enc tTrace t), .c (.int .i64 (t.2.2.2.1.getD (Int.toNat v) tIns.dflt).2.1), .c (.int .i64 v)] false (.c (.int .i64 (kindN t n (t.2.2.2.1.getD (Int.toNat v) tIns.dflt).2.1 v))) <|
   .ite (decide (kindN t n (t.2.2.2.1.getD (Int.toNat v) tIns.dflt).2.1 v = 2))
   (.ret (.c (.int .i64 (kindN t n (t.2.2.2.1.getD (Int.toNat v) tIns.dflt).2.1 v))) [.cells 29 (Ty.enc tTrace t), (bCn0 t v)])
   (.ite (decide (kindN t n (t.2.2.2.1.getD (Int.toNat v) tIns.dflt).2.1 v = 3))
    (.ret (.c (.int .i64 (kindN t n (t.2.2.2.1.getD (Int.toNat v) tIns.dflt).2.1 v))) [.cells 29 (Ty.enc tTrace t), (bCn0 t v)])
    (.ret (.c (.int .i64 (-1))) [.cells 29 (Ty.enc tTrace t), (bCn0 t v)]))))
  (.call 21 [.agg (Ty.enc tTrace t), .c (.int .i64 (t.2.2.2.1.getD (Int.toNat v) tIns.dflt).2.1), .c (.int .i64 v)] false (.c (.int .i64 (kindN t n (t.2.2.2.1.getD (Int.toNat v) tIns.dflt).2.1 v))) <|
   .ite (decide (kindN t n (t.2.2.2.1.getD (Int.toNat v) tIns.dflt).2.1 v = 2))
   (.ret (.c (.int .i64 (kindN t n (t.2.2.2.1.getD (Int.toNat v) tIns.dflt).2.1 v))) [.cells 29 (Ty.enc tTrace t), (bCn0 t v)])
   (.ite (decide (kindN t n (t.2.2.2.1.getD (Int.toNat v) tIns.dflt).2.1 v = 3))
   (.ret (.c (.int .i64 (kindN t n (t.2.2.2.1.getD (Int.toNat v) tIns.dflt).2.1 v))) [.cells 29 (Ty.enc tTrace t), (bCn0 t v)])
   (.ret (.c (.int .i64 (-1))) [.cells 29 (Ty.enc tTrace t), (bCn0 t v)])))))
 (.ite (decide ((t.2.2.2.1.getD (Int.toNat v) tIns.dflt).2.2.2.2.1 = 11))
  (.ite (decide ((t.2.2.2.1.getD (Int.toNat v) tIns.dflt).1 = 8))
  (.ret (.c (.int .i64 1)) [.cells 29 (Ty.enc tTrace t), (bCn0 t v)])
  (.call 21 [.agg (Ty.enc tTrace t), .c (.int .i64 (t.2.2.2.1.getD (Int.toNat v) tIns.dflt).2.1), .c (.int .i64 v)] false (.c (.int .i64 (kindN t n (t.2.2.2.1.getD (Int.toNat v) tIns.dflt).2.1 v))) <|
   .ite (decide (kindN t n (t.2.2.2.1.getD (Int.toNat v) tIns.dflt).2.1 v = 2))
   (.ret (.c (.int .i64 (kindN t n (t.2.2.2.1.getD (Int.toNat v) tIns.dflt).2.1 v))) [.cells 29 (Ty.enc tTrace t), (bCn0 t v)])
   (.ite (decide (kindN t n (t.2.2.2.1.getD (Int.toNat v) tIns.dflt).2.1 v = 3))
   (.ret (.c (.int .i64 (kindN t n (t.2.2.2.1.getD (Int.toNat v) tIns.dflt).2.1 v))) [.cells 29 (Ty.enc tTrace t), (bCn0 t v)])
   (.ret (.c (.int .i64 (-1))) [.cells 29 (Ty.enc tTrace t), (bCn0 t v)]))))
  (.call 21 [.agg (Ty.enc tTrace t), .c (.int .i64 (t.2.2.2.1.getD (Int.toNat v) tIns.dflt).2.1), .c (.int .i64 v)] false (.c (.int .i64 (kindN t n (t.2.2.2.1.getD (Int.toNat v) tIns.dflt).2.1 v))) <|
  .ite (decide (kindN t n (t.2.2.2.1.getD (Int.toNat v) tIns.dflt).2.1 v = 2))
  (.ret (.c (.int .i64 (kindN t n (t.2.2.2.1.getD (Int.toNat v) tIns.dflt).2.1 v))) [.cells 29 (Ty.enc tTrace t), (bCn0 t v)])
  (.ite (decide (kindN t n (t.2.2.2.1.getD (Int.toNat v) tIns.dflt).2.1 v = 3))
   (.ret (.c (.int .i64 (kindN t n (t.2.2.2.1.getD (Int.toNat v) tIns.dflt).2.1 v))) [.cells 29 (Ty.enc tTrace t), (bCn0 t v)])
   (.ret (.c (.int .i64 (-1))) [.cells 29 (Ty.enc tTrace t), (bCn0 t v)]))))
theorem own_r12_R_ok (t : ETrace) (n : Nat) (v : Int) : aRound Tryd.prog (oc24 n) Tryd.f47 own_lv 3000 (rg (bodyOf Tryd.f47) 12) (.junk :: .c (.int .i64 v) :: .c (.ptr 0 0 0 0) :: J2 (.c (.ptr 1 0 0 0) :: J32 (J16 (J8 ([]))))) [.cells 29 (Ty.enc tTrace t), (bCn0 t v)] = own_r12_R t n v := by kernel_rfl
theorem own_r12 (t : ETrace) (n : Nat) (v : Int) (hk : ∀ a : Int, AFun Tryd.prog 21 [.agg (Ty.enc tTrace t), .c (.int .i64 a), .c (.int .i64 v)] (.c (.int .i64 (kindN t n a v)))) (hv : 0 ≤ v ∧ v < (t.2.2.2.1.length : Int)) (hop : (t.2.2.2.1.getD (Int.toNat v) tIns.dflt).1 = 7 ∨ (t.2.2.2.1.getD (Int.toNat v) tIns.dflt).1 = 8) : Run Tryd.prog 47 (retQ Tryd.prog (.c (.int .i64 (ownK (fun b => kindN t n b v) (t.2.2.2.1.getD (Int.toNat v) tIns.dflt))))) (rg (bodyOf Tryd.f47) 12) (.junk :: .c (.int .i64 v) :: .c (.ptr 0 0 0 0) :: J2 (.c (.ptr 1 0 0 0) :: J32 (J16 (J8 ([]))))) [.cells 29 (Ty.enc tTrace t), (bCn0 t v)] :=
 Run.roundA (oc24 n) own_lv 3000 Tryd.func47 mixed (own_r12_R t n v) (own_r12_R_ok t n v) (by
  unfold own_r12_R
  refine g_iteD (fun h0 => ?_) (fun h0 => ?_)
  ·refine g_iteD (fun h1 => ?_) (fun h1 => ?_)
   ·refine g_iteD (fun h2 => ?_) (fun h2 => ?_)
    ·exact g_reti (by simp only [ownK]; (repeat' split) <;> first | rfl | omega | (exfalso; omega) | (simp_all; done))
    ·refine g_iteD (fun h3 => ?_) (fun h3 => ?_)
     ·refine g_iteD (fun h4 => ?_) (fun h4 => ?_)
      ·exact g_reti (by simp only [ownK]; (repeat' split) <;> first | rfl | omega | (exfalso; omega) | (simp_all; done))
      ·refine g_call (hk (t.2.2.2.1.getD (Int.toNat v) tIns.dflt).2.1) (fun h => nomatch h) ?_
       refine g_iteD (fun h5 => ?_) (fun h5 => ?_)
       ·exact g_reti (by simp only [ownK]; (repeat' split) <;> first | rfl | omega | (exfalso; omega) | (simp_all; done))
       ·refine g_iteD (fun h6 => ?_) (fun h6 => ?_)
        ·exact g_reti (by simp only [ownK]; (repeat' split) <;> first | rfl | omega | (exfalso; omega) | (simp_all; done))
        ·exact g_reti (by simp only [ownK]; (repeat' split) <;> first | rfl | omega | (exfalso; omega) | (simp_all; done))
     ·refine g_call (hk (t.2.2.2.1.getD (Int.toNat v) tIns.dflt).2.1) (fun h => nomatch h) ?_
      refine g_iteD (fun h4 => ?_) (fun h4 => ?_)
      ·exact g_reti (by simp only [ownK]; (repeat' split) <;> first | rfl | omega | (exfalso; omega) | (simp_all; done))
      ·refine g_iteD (fun h5 => ?_) (fun h5 => ?_)
       ·exact g_reti (by simp only [ownK]; (repeat' split) <;> first | rfl | omega | (exfalso; omega) | (simp_all; done))
       ·exact g_reti (by simp only [ownK]; (repeat' split) <;> first | rfl | omega | (exfalso; omega) | (simp_all; done))
   ·refine g_iteD (fun h2 => ?_) (fun h2 => ?_)
    ·refine g_iteD (fun h3 => ?_) (fun h3 => ?_)
     ·exact g_reti (by simp only [ownK]; (repeat' split) <;> first | rfl | omega | (exfalso; omega) | (simp_all; done))
     ·refine g_call (hk (t.2.2.2.1.getD (Int.toNat v) tIns.dflt).2.1) (fun h => nomatch h) ?_
      refine g_iteD (fun h4 => ?_) (fun h4 => ?_)
      ·exact g_reti (by simp only [ownK]; (repeat' split) <;> first | rfl | omega | (exfalso; omega) | (simp_all; done))
      ·refine g_iteD (fun h5 => ?_) (fun h5 => ?_)
       ·exact g_reti (by simp only [ownK]; (repeat' split) <;> first | rfl | omega | (exfalso; omega) | (simp_all; done))
       ·exact g_reti (by simp only [ownK]; (repeat' split) <;> first | rfl | omega | (exfalso; omega) | (simp_all; done))
    ·refine g_call (hk (t.2.2.2.1.getD (Int.toNat v) tIns.dflt).2.1) (fun h => nomatch h) ?_
     refine g_iteD (fun h3 => ?_) (fun h3 => ?_)
     ·exact g_reti (by simp only [ownK]; (repeat' split) <;> first | rfl | omega | (exfalso; omega) | (simp_all; done))
     ·refine g_iteD (fun h4 => ?_) (fun h4 => ?_)
      ·exact g_reti (by simp only [ownK]; (repeat' split) <;> first | rfl | omega | (exfalso; omega) | (simp_all; done))
      ·exact g_reti (by simp only [ownK]; (repeat' split) <;> first | rfl | omega | (exfalso; omega) | (simp_all; done))
  ·refine g_iteD (fun h1 => ?_) (fun h1 => ?_)
   ·refine g_iteD (fun h2 => ?_) (fun h2 => ?_)
    ·exact g_reti (by simp only [ownK]; (repeat' split) <;> first | rfl | omega | (exfalso; omega) | (simp_all; done))
    ·refine g_call (hk (t.2.2.2.1.getD (Int.toNat v) tIns.dflt).2.1) (fun h => nomatch h) ?_
     refine g_iteD (fun h3 => ?_) (fun h3 => ?_)
     ·exact g_reti (by simp only [ownK]; (repeat' split) <;> first | rfl | omega | (exfalso; omega) | (simp_all; done))
     ·refine g_iteD (fun h4 => ?_) (fun h4 => ?_)
      ·exact g_reti (by simp only [ownK]; (repeat' split) <;> first | rfl | omega | (exfalso; omega) | (simp_all; done))
      ·exact g_reti (by simp only [ownK]; (repeat' split) <;> first | rfl | omega | (exfalso; omega) | (simp_all; done))
   ·refine g_call (hk (t.2.2.2.1.getD (Int.toNat v) tIns.dflt).2.1) (fun h => nomatch h) ?_
    refine g_iteD (fun h2 => ?_) (fun h2 => ?_)
    ·exact g_reti (by simp only [ownK]; (repeat' split) <;> first | rfl | omega | (exfalso; omega) | (simp_all; done))
    ·refine g_iteD (fun h3 => ?_) (fun h3 => ?_)
     ·exact g_reti (by simp only [ownK]; (repeat' split) <;> first | rfl | omega | (exfalso; omega) | (simp_all; done))
     ·exact g_reti (by simp only [ownK]; (repeat' split) <;> first | rfl | omega | (exfalso; omega) | (simp_all; done))
  )
theorem own_fun (t : ETrace) (n : Nat) (v : Int) (hk : ∀ a : Int, AFun Tryd.prog 21 [.agg (Ty.enc tTrace t), .c (.int .i64 a), .c (.int .i64 v)] (.c (.int .i64 (kindN t n a v)))) (hv : 0 ≤ v ∧ v < (t.2.2.2.1.length : Int)) : AFun Tryd.prog 47 [.agg (tTrace.enc t), .c (.int .i64 v)] (.c (.int .i64 (ownK (fun b => kindN t n b v) (t.2.2.2.1.getD (Int.toNat v) tIns.dflt)))) :=
 AFun.of (oc24 n) own_lv 3000 Tryd.func47 mixed rfl (by decide) (Nat.le_of_ble_eq_true rfl) _ (own_T_ok t n v) fun hF => by
  unfold own_T
  refine g_need (by omega) ?_
  refine g_need (by omega) ?_
  refine g_iteD (fun h0 => ?_) (fun h0 => ?_)
  ·exact g_reti (by simp only [ownK]; (repeat' split) <;> first | rfl | omega | (exfalso; omega) | (simp_all; done))
  ·refine g_iteD (fun h1 => ?_) (fun h1 => ?_)
   ·exact g_reti (by simp only [ownK]; (repeat' split) <;> first | rfl | omega | (exfalso; omega) | (simp_all; done))
   ·refine g_iteD (fun h2 => ?_) (fun h2 => ?_)
    ·refine g_iteD (fun h3 => ?_) (fun h3 => ?_)
     ·exact g_reti (by simp only [ownK]; (repeat' split) <;> first | rfl | omega | (exfalso; omega) | (simp_all; done))
     ·refine g_iteD (fun h4 => ?_) (fun h4 => ?_)
      ·refine g_iteD (fun h5 => ?_) (fun h5 => ?_)
       ·refine g_stop (RunN.keep [0, 1] (false :: true :: true :: F2 (true :: F32 (F16 (F8 ([]))))) n0 (by decide) rfl rfl ?_)
        exact own_r12 t n v hk hv (by first | exact .inl (by assumption) | exact .inr (by assumption))
       ·exact g_reti (by simp only [ownK]; (repeat' split) <;> first | rfl | omega | (exfalso; omega) | (simp_all; done))
      ·refine g_iteD (fun h5 => ?_) (fun h5 => ?_)
       ·refine g_stop (RunN.keep [0, 1] (false :: true :: true :: F2 (true :: F32 (F16 (F8 ([]))))) n0 (by decide) rfl rfl ?_)
        exact own_r12 t n v hk hv (by first | exact .inl (by assumption) | exact .inr (by assumption))
       ·exact g_reti (by simp only [ownK]; (repeat' split) <;> first | rfl | omega | (exfalso; omega) | (simp_all; done))
    ·refine g_iteD (fun h3 => ?_) (fun h3 => ?_)
     ·exact g_reti (by simp only [ownK]; (repeat' split) <;> first | rfl | omega | (exfalso; omega) | (simp_all; done))
     ·refine g_iteD (fun h4 => ?_) (fun h4 => ?_)
      ·refine g_iteD (fun h5 => ?_) (fun h5 => ?_)
       ·refine g_stop (RunN.keep [0, 1] (false :: true :: true :: F2 (true :: F32 (F16 (F8 ([]))))) n0 (by decide) rfl rfl ?_)
        exact own_r12 t n v hk hv (by first | exact .inl (by assumption) | exact .inr (by assumption))
       ·exact g_reti (by simp only [ownK]; (repeat' split) <;> first | rfl | omega | (exfalso; omega) | (simp_all; done))
      ·refine g_iteD (fun h5 => ?_) (fun h5 => ?_)
       ·refine g_stop (RunN.keep [0, 1] (false :: true :: true :: F2 (true :: F32 (F16 (F8 ([]))))) n0 (by decide) rfl rfl ?_)
        exact own_r12 t n v hk hv (by first | exact .inl (by assumption) | exact .inr (by assumption))
       ·exact g_reti (by simp only [ownK]; (repeat' split) <;> first | rfl | omega | (exfalso; omega) | (simp_all; done))

noncomputable def oc25 (n : Nat) : Orc where
 pure := fun f args => match f, args with
  | 19, [a0] => match dA tI a0 with
   | some x0 => some (.c (.bool (tellF x0)))
   | _ => none
  | 47, [a0, a1] => match dA tTrace a0, dA tI a1 with
   | some x0, some x1 => some (.c (.int .i64 (ownK (fun b => kindN x0 n b x1) (x0.2.2.2.1.getD (Int.toNat x1) tIns.dflt))))
   | _, _ => none
  | _, _ => none
 heap := fun _ _ _ => none
def kind_lv : LV := ⟨(false :: true :: true :: true :: F4 (true :: F32 (F32 (false :: [])))), []⟩
noncomputable def kind_T (t : ETrace) (n : Nat) (v : Int) (a : Int) : Tree :=
 .ite (decide (v < 0))
 (.ret (.c (.int .i64 (-1))) [.cells 29 (Ty.enc tTrace t)])
 (.ite (decide (a ≤ v))
  (.ret (.c (.int .i64 (-1))) [.cells 29 (Ty.enc tTrace t)])
  (.ite (decide ((t.2.2.2.1.length : Int) < a))
  (.ret (.c (.int .i64 (-1))) [.cells 29 (Ty.enc tTrace t)])
  (.need ((0 : Int) ≤ v ∧ (v : Int) < (t.2.2.2.1.length : Int)) <|
   .need ((Int.toNat v) < t.2.2.2.1.length) <|
   .call 19 [.c (.int .i64 (t.2.2.2.1.getD (Int.toNat v) tIns.dflt).1)] false (.c (.bool (tellF (t.2.2.2.1.getD (Int.toNat v) tIns.dflt).1))) <|
   .ite ((!(tellF (t.2.2.2.1.getD (Int.toNat v) tIns.dflt).1)))
   (.ret (.c (.int .i64 (-1))) [.cells 29 (Ty.enc tTrace t)])
   (.call 47 [.agg (Ty.enc tTrace t), .c (.int .i64 v)] false (.c (.int .i64 (ownK (fun b => kindN t n b v) (t.2.2.2.1.getD (Int.toNat v) tIns.dflt)))) <|
   .ite (decide ((0 : Int) ≤ ownK (fun b => kindN t n b v) (t.2.2.2.1.getD (Int.toNat v) tIns.dflt)))
   (.ret (.c (.int .i64 (ownK (fun b => kindN t n b v) (t.2.2.2.1.getD (Int.toNat v) tIns.dflt)))) [.cells 29 (Ty.enc tTrace t)])
   (.need (inR .i64 (v + 1)) <|
    .stop (lp (bodyOf Tryd.f21) 0) (.junk :: .c (.int .i64 v) :: .c (.int .i64 a) :: .c (.ptr 0 0 0 0) :: J4 (.c (.int .i64 (v + 1)) :: J32 (J32 (.junk :: [])))) [.cells 29 (Ty.enc tTrace t)])))))
theorem kind_T_ok (t : ETrace) (n : Nat) (v : Int) (a : Int) : aRun Tryd.prog (oc25 n) Tryd.f21 kind_lv 3000 [.code (bodyOf Tryd.f21)] ([.agg (tTrace.enc t), .c (.int .i64 v), .c (.int .i64 a)] ++ List.replicate (Func.ntmps Tryd.f21 - 3) .junk) [] = kind_T t n v a := by kernel_rfl
abbrev bCn1 (t : ETrace) (i : Int) : AB := .cells 46 [.int .i64 (t.2.2.2.1.getD (Int.toNat i) tIns.dflt).1, .int .i64 (t.2.2.2.1.getD (Int.toNat i) tIns.dflt).2.1, .int .i64 (t.2.2.2.1.getD (Int.toNat i) tIns.dflt).2.2.1, .int .i64 (t.2.2.2.1.getD (Int.toNat i) tIns.dflt).2.2.2.1, .int .i64 (t.2.2.2.1.getD (Int.toNat i) tIns.dflt).2.2.2.2.1, .int .i64 (t.2.2.2.1.getD (Int.toNat i) tIns.dflt).2.2.2.2.2.1, .int .i64 (t.2.2.2.1.getD (Int.toNat i) tIns.dflt).2.2.2.2.2.2.1, .int .i64 (t.2.2.2.1.getD (Int.toNat i) tIns.dflt).2.2.2.2.2.2.2]
noncomputable def kind_l0_R (t : ETrace) (n : Nat) (v : Int) (a : Int) (i : Int) : Tree :=
 .ite (decide (i < a))
 (.need ((0 : Int) ≤ i ∧ (i : Int) < (t.2.2.2.1.length : Int)) <|
  .need ((Int.toNat i) < t.2.2.2.1.length) <|
  .ite ((!(decide ((t.2.2.2.1.getD (Int.toNat i) tIns.dflt).2.1 = v))))
  (.need (inR .i64 (i + 1)) <|
  .stop (lp (bodyOf Tryd.f21) 0) (.junk :: .c (.int .i64 v) :: .c (.int .i64 a) :: .c (.ptr 0 0 0 0) :: J4 (.c (.int .i64 (i + 1)) :: J32 (J32 (.junk :: [])))) [.cells 29 (Ty.enc tTrace t), (bCn1 t i)])
  (.ite (decide ((t.2.2.2.1.getD (Int.toNat i) tIns.dflt).1 = 4))
  (.ret (.c (.int .i64 (t.2.2.2.1.getD (Int.toNat i) tIns.dflt).2.2.2.2.1)) [.cells 29 (Ty.enc tTrace t), (bCn1 t i)])
  (.ite (decide ((t.2.2.2.1.getD (Int.toNat i) tIns.dflt).1 = 6))
   (.ret (.c (.int .i64 (t.2.2.2.1.getD (Int.toNat i) tIns.dflt).2.2.2.2.2.2.1)) [.cells 29 (Ty.enc tTrace t), (bCn1 t i)])
   (.ite (decide ((t.2.2.2.1.getD (Int.toNat i) tIns.dflt).1 = 9))
   (.ret (.c (.int .i64 5)) [.cells 29 (Ty.enc tTrace t), (bCn1 t i)])
   (.need (inR .i64 (i + 1)) <|
    .stop (lp (bodyOf Tryd.f21) 0) (.junk :: .c (.int .i64 v) :: .c (.int .i64 a) :: .c (.ptr 0 0 0 0) :: J4 (.c (.int .i64 (i + 1)) :: J32 (J32 (.junk :: [])))) [.cells 29 (Ty.enc tTrace t), (bCn1 t i)])))))
 (.ret (.c (.int .i64 (-1))) [.cells 29 (Ty.enc tTrace t)])
theorem kind_l0_R_ok (t : ETrace) (n : Nat) (v : Int) (a : Int) (i : Int) : aRound Tryd.prog (oc25 n) Tryd.f21 kind_lv 3000 (lp (bodyOf Tryd.f21) 0) (.junk :: .c (.int .i64 v) :: .c (.int .i64 a) :: .c (.ptr 0 0 0 0) :: J4 (.c (.int .i64 i) :: J32 (J32 (.junk :: [])))) [.cells 29 (Ty.enc tTrace t)] = kind_l0_R t n v a i := by kernel_rfl
theorem kind_l0 (t : ETrace) (n : Nat) (v : Int) (a : Int) (i : Int) (hi : 0 ≤ i ∧ a ≤ (t.2.2.2.1.length : Int)) (hl : t.2.2.2.1.length ≤ 9223372036854775807) : Run Tryd.prog 21 (retQ Tryd.prog (.c (.int .i64 (scanK v ((t.2.2.2.1.take a.toNat).drop i.toNat))))) (lp (bodyOf Tryd.f21) 0) (.junk :: .c (.int .i64 v) :: .c (.int .i64 a) :: .c (.ptr 0 0 0 0) :: J4 (.c (.int .i64 i) :: J32 (J32 (.junk :: [])))) [.cells 29 (Ty.enc tTrace t)] :=
 Run.roundA (oc25 n) kind_lv 3000 Tryd.func21 mixed (kind_l0_R t n v a i) (kind_l0_R_ok t n v a i) (by
  unfold kind_l0_R
  refine g_iteD (fun h0 => ?_) (fun h0 => ?_)
  ·refine g_need (by omega) ?_
   refine g_need (by omega) ?_
   refine g_iteND (fun h1 => ?_) (fun h1 => ?_)
   ·refine g_need (i64_iff.2 (by omega)) ?_
    refine g_stop (RunN.keep [0] (false :: true :: true :: true :: F4 (true :: F32 (F32 (false :: [])))) n0 (by decide) rfl rfl ?_)
    have ht := kind_l0 t n v a (i + 1) (by omega) hl; rw [show (t.2.2.2.1.take a.toNat).drop i.toNat = t.2.2.2.1.getD i.toNat tIns.dflt :: (t.2.2.2.1.take a.toNat).drop (i + 1).toNat from by rw [dropCons (α := EIns) (Ty.dflt tIns) (by rw [List.length_take]; omega : i.toNat < (t.2.2.2.1.take a.toNat).length), show i.toNat + 1 = (i + 1).toNat by omega]; congr 1; simp only [List.getD_eq_getElem?_getD, List.getElem?_take]; rw [if_pos (by omega)], scanK]; simp only [h0, h1, if_true, if_false]; exact ht
   ·refine g_iteD (fun h2 => ?_) (fun h2 => ?_)
    ·exact g_reti (by first | (rw [List.drop_eq_nil_of_le (by rw [List.length_take]; omega)]; rfl) | (rw [show (t.2.2.2.1.take a.toNat).drop i.toNat = t.2.2.2.1.getD i.toNat tIns.dflt :: (t.2.2.2.1.take a.toNat).drop (i + 1).toNat from by rw [dropCons (α := EIns) (Ty.dflt tIns) (by rw [List.length_take]; omega : i.toNat < (t.2.2.2.1.take a.toNat).length), show i.toNat + 1 = (i + 1).toNat by omega]; congr 1; simp only [List.getD_eq_getElem?_getD, List.getElem?_take]; rw [if_pos (by omega)], scanK]; simp only [h0, h1, h2, if_true, if_false, Int.reduceEq, reduceIte]; done))
    ·refine g_iteD (fun h3 => ?_) (fun h3 => ?_)
     ·exact g_reti (by first | (rw [List.drop_eq_nil_of_le (by rw [List.length_take]; omega)]; rfl) | (rw [show (t.2.2.2.1.take a.toNat).drop i.toNat = t.2.2.2.1.getD i.toNat tIns.dflt :: (t.2.2.2.1.take a.toNat).drop (i + 1).toNat from by rw [dropCons (α := EIns) (Ty.dflt tIns) (by rw [List.length_take]; omega : i.toNat < (t.2.2.2.1.take a.toNat).length), show i.toNat + 1 = (i + 1).toNat by omega]; congr 1; simp only [List.getD_eq_getElem?_getD, List.getElem?_take]; rw [if_pos (by omega)], scanK]; simp only [h0, h1, h2, h3, if_true, if_false, Int.reduceEq, reduceIte]; done))
     ·refine g_iteD (fun h4 => ?_) (fun h4 => ?_)
      ·exact g_reti (by first | (rw [List.drop_eq_nil_of_le (by rw [List.length_take]; omega)]; rfl) | (rw [show (t.2.2.2.1.take a.toNat).drop i.toNat = t.2.2.2.1.getD i.toNat tIns.dflt :: (t.2.2.2.1.take a.toNat).drop (i + 1).toNat from by rw [dropCons (α := EIns) (Ty.dflt tIns) (by rw [List.length_take]; omega : i.toNat < (t.2.2.2.1.take a.toNat).length), show i.toNat + 1 = (i + 1).toNat by omega]; congr 1; simp only [List.getD_eq_getElem?_getD, List.getElem?_take]; rw [if_pos (by omega)], scanK]; simp only [h0, h1, h2, h3, h4, if_true, if_false, Int.reduceEq, reduceIte]; done))
      ·refine g_need (i64_iff.2 (by omega)) ?_
       refine g_stop (RunN.keep [0] (false :: true :: true :: true :: F4 (true :: F32 (F32 (false :: [])))) n0 (by decide) rfl rfl ?_)
       have ht := kind_l0 t n v a (i + 1) (by omega) hl; rw [show (t.2.2.2.1.take a.toNat).drop i.toNat = t.2.2.2.1.getD i.toNat tIns.dflt :: (t.2.2.2.1.take a.toNat).drop (i + 1).toNat from by rw [dropCons (α := EIns) (Ty.dflt tIns) (by rw [List.length_take]; omega : i.toNat < (t.2.2.2.1.take a.toNat).length), show i.toNat + 1 = (i + 1).toNat by omega]; congr 1; simp only [List.getD_eq_getElem?_getD, List.getElem?_take]; rw [if_pos (by omega)], scanK]; simp only [h0, h1, h2, h3, h4, if_true, if_false]; exact ht
  ·exact g_reti (by first | (rw [List.drop_eq_nil_of_le (by rw [List.length_take]; omega)]; rfl) | (rw [show (t.2.2.2.1.take a.toNat).drop i.toNat = t.2.2.2.1.getD i.toNat tIns.dflt :: (t.2.2.2.1.take a.toNat).drop (i + 1).toNat from by rw [dropCons (α := EIns) (Ty.dflt tIns) (by rw [List.length_take]; omega : i.toNat < (t.2.2.2.1.take a.toNat).length), show i.toNat + 1 = (i + 1).toNat by omega]; congr 1; simp only [List.getD_eq_getElem?_getD, List.getElem?_take]; rw [if_pos (by omega)], scanK]; simp only [h0, if_true, if_false, Int.reduceEq, reduceIte]; done))
  )
 termination_by (a - i).toNat
 decreasing_by all_goals omega
theorem kind_step (t : ETrace) (n : Nat) (v : Int) (a : Int) (hk : 0 ≤ v → v < a → a ≤ (t.2.2.2.1.length : Int) → ∀ b : Int, AFun Tryd.prog 21 [.agg (Ty.enc tTrace t), .c (.int .i64 b), .c (.int .i64 v)] (.c (.int .i64 (kindN t n b v)))) : AFun Tryd.prog 21 [.agg (tTrace.enc t), .c (.int .i64 v), .c (.int .i64 a)] (.c (.int .i64 (kindN t (n + 1) v a))) :=
 AFun.of (oc25 n) kind_lv 3000 Tryd.func21 mixed rfl (by decide) (Nat.le_of_ble_eq_true rfl) _ (kind_T_ok t n v a) fun hF => by
  have hl := hF.agg.1.2.2.2.1.1
  unfold kind_T
  refine g_iteD (fun h0 => ?_) (fun h0 => ?_)
  ·exact g_reti (by first | (simp only [kindN, h0, if_true, if_false]; done) | (simp only [kindN, h0, if_true, if_false, Bool.false_eq_true, reduceCtorEq]; done) | (simp_all [kindN]; done))
  ·refine g_iteD (fun h1 => ?_) (fun h1 => ?_)
   ·exact g_reti (by first | (simp only [kindN, h0, h1, if_true, if_false]; done) | (simp only [kindN, h0, h1, if_true, if_false, Bool.false_eq_true, reduceCtorEq]; done) | (simp_all [kindN]; done))
   ·refine g_iteD (fun h2 => ?_) (fun h2 => ?_)
    ·exact g_reti (by first | (simp only [kindN, h0, h1, h2, if_true, if_false]; done) | (simp only [kindN, h0, h1, h2, if_true, if_false, Bool.false_eq_true, reduceCtorEq]; done) | (simp_all [kindN]; done))
    ·refine g_need (by omega) ?_
     refine g_need (by omega) ?_
     refine g_call (tells_fun (t.2.2.2.1.getD (Int.toNat v) tIns.dflt).1) (fun h => nomatch h) ?_
     refine g_iteN (fun h3 => ?_) (fun h3 => ?_)
     ·exact g_reti (by first | (simp only [kindN, h0, h1, h2, h3, if_true, if_false]; done) | (simp only [kindN, h0, h1, h2, h3, if_true, if_false, Bool.false_eq_true, reduceCtorEq]; done) | (simp_all [kindN]; done))
     ·refine g_call (own_fun t n v (hk (by omega) (by omega) (by omega)) (by omega)) (fun h => nomatch h) ?_
      refine g_iteD (fun h4 => ?_) (fun h4 => ?_)
      ·exact g_reti (by first | (simp only [kindN, h0, h1, h2, h3, h4, if_true, if_false]; done) | (simp only [kindN, h0, h1, h2, h3, h4, if_true, if_false, Bool.false_eq_true, reduceCtorEq]; done) | (simp_all [kindN]; done))
      ·refine g_need (i64_iff.2 (by omega)) ?_
       refine g_stop (RunN.keep [0] (false :: true :: true :: true :: F4 (true :: F32 (F32 (false :: [])))) n0 (by decide) rfl rfl ?_)
       have ht := kind_l0 t n v a (v + 1) (by omega) hl; simp only [kindN, h0, h1, h2, h3, h4, if_true, if_false, Bool.true_eq_false, Bool.false_eq_true]; exact ht

theorem kindN_more (t : ETrace) : ∀ (n m : Nat) (v a : Int), a.toNat < n → a.toNat < m → kindN t n v a = kindN t m v a
 | 0, _, _, _, h, _ => absurd h (Nat.not_lt_zero _)
 | _ + 1, 0, _, _, _, h => absurd h (Nat.not_lt_zero _)
 | n + 1, m + 1, v, a, h, h' => by
  by_cases h1 : v < 0
  ·simp only [kindN, h1, if_true]
  ·by_cases h2 : a ≤ v
   ·simp only [kindN, h1, h2, if_true, if_false]
   ·have e : (fun b => kindN t n b v) = (fun b => kindN t m b v) := funext fun b => kindN_more t n m b v (by omega) (by omega)
    simp only [kindN, e]
def kindF (t : ETrace) (v a : Int) : Int := kindN t (a.toNat + 1) v a
theorem kind_all (t : ETrace) : ∀ (n : Nat) (v a : Int), a.toNat < n → AFun Tryd.prog 21 [.agg (Ty.enc tTrace t), .c (.int .i64 v), .c (.int .i64 a)] (.c (.int .i64 (kindN t n v a)))
 | 0, _, _, h => absurd h (Nat.not_lt_zero _)
 | n + 1, v, a, h => kind_step t n v a fun h0 h1 _ b => kind_all t n b v (by omega)
theorem kind_fun (t : ETrace) (v a : Int) : AFun Tryd.prog 21 [.agg (Ty.enc tTrace t), .c (.int .i64 v), .c (.int .i64 a)] (.c (.int .i64 (kindF t v a))) := kind_all t _ v a (by omega)
end Go.Proofs.YtefkifdhjabdiaaDoor
namespace Go.Proofs.YtefkifdhjabdiaaDoor
set_option linter.unusedVariables false
set_option linter.unusedSimpArgs false
abbrev xV (t : ETrace) (v : Int) : EIns := t.2.2.2.1.getD v.toNat tIns.dflt
def insV (t : ETrace) (v : Int) : EIns := t.2.2.2.1.getD v.toNat tIns.dflt
def intsF (t : ETrace) (i : Int) : Bool := if kindF t (insV t i).2.1 i = 2 then decide (kindF t (insV t i).2.2.1 i = 2) else false
def min2 (a b : Int) : Int := if b < a then b else a
def max2 (a b : Int) : Int := if b > a then b else a
def minL : Int → List Int → Int
 | m, [] => m
 | m, x :: r => minL (min2 m x) r
def maxL : Int → List Int → Int
 | m, [] => m
 | m, x :: r => maxL (max2 m x) r
def recB (n : Int) (a b : EVal) : EVal × Bool :=
 if n = 3 then ((a.1 + b.1, a.2 + b.2), true) else if n = 4 then ((a.1 - b.2, a.2 - b.1), true)
 else if n = 5 then ((minL (a.1 * b.1) [a.1 * b.2, a.2 * b.1, a.2 * b.2], maxL (a.1 * b.1) [a.1 * b.2, a.2 * b.1, a.2 * b.2]), true) else ((0, 0), false)
abbrev allB : EVal := (-2147483648, 2147483647)
section
variable {M : Type} (rec : Int → Int → M → EVal × M) (t : ETrace)
def reckM (i : Int) (m : M) : (EVal × Bool) × M :=
 (recB (insV t i).2.2.2.2.1 (rec (insV t i).2.1 i m).1 (rec (insV t i).2.2.1 i (rec (insV t i).2.1 i m).2).1, (rec (insV t i).2.2.1 i (rec (insV t i).2.1 i m).2).2)
def modB (b a : EVal) : EVal := if 0 ≤ a.1 then (0, b.2 - 1) else (0 - (b.2 - 1), b.2 - 1)
def modM (v : Int) (m : M) : EVal × M :=
 if (insV t v).2.2.2.2.1 = 7 then (if 1 ≤ (rec (insV t v).2.2.1 v m).1.1 then (modB (rec (insV t v).2.2.1 v m).1 (rec (insV t v).2.1 v (rec (insV t v).2.2.1 v m).2).1, (rec (insV t v).2.1 v (rec (insV t v).2.2.1 v m).2).2) else (allB, (rec (insV t v).2.2.1 v m).2))
 else (allB, (rec (insV t v).2.2.1 v m).2)
def itselfM (v : Int) (m : M) : EVal × M :=
 if (insV t v).1 = 2 ∧ (insV t v).2.2.2.2.2.2.1 = 2 then (((insV t v).2.2.2.2.2.2.2, (insV t v).2.2.2.2.2.2.2), m)
 else if (insV t v).1 = 15 then ((0, 600), m)
 else if (insV t v).1 ≠ 7 then (allB, m)
 else if intsF t v = false then (allB, m)
 else if (reckM rec t v m).1.2 = true then ((cutN (reckM rec t v m).1.1.1, cutN (reckM rec t v m).1.1.2), (reckM rec t v m).2)
 else modM rec t v (reckM rec t v m).2
def hiB (s : EVal) (h : Int) : EVal := if s.1 ≤ min2 s.2 h then (s.1, min2 s.2 h) else s
def loB (s : EVal) (l : Int) : EVal := if max2 s.1 l ≤ s.2 then (max2 s.1 l, s.2) else s
def narHi (s : EVal) (v a b d at_ : Int) (m : M) : EVal × M := if v = a then (hiB s ((rec b at_ m).1.2 - d), (rec b at_ m).2) else (s, m)
def narLo (s : EVal) (v a b d at_ : Int) (m : M) : EVal × M := if v = b then (loB s ((rec a at_ m).1.1 + d), (rec a at_ m).2) else (s, m)
def narM (s : EVal) (v a b d at_ : Int) (m : M) : EVal × M := narLo rec (narHi rec s v a b d at_ m).1 v a b d at_ (narHi rec s v a b d at_ m).2
def guardOf (v i : Int) : Prop := (insV t i).1 = 5 ∧ (insV t (insV t i).2.1).1 = 7 ∧ ((insV t (insV t i).2.1).2.2.2.2.1 = 9 ∨ (insV t (insV t i).2.1).2.2.2.2.1 = 10) ∧ ((insV t (insV t i).2.1).2.1 = v ∨ (insV t (insV t i).2.1).2.2.1 = v) ∧ intsF t (insV t i).2.1 = true
instance (v i : Int) : Decidable (guardOf t v i) := by unfold guardOf; infer_instance
theorem guard_xV (v i : Int) : guardOf t v i = ((xV t i).1 = 5 ∧ (xV t (xV t i).2.1).1 = 7 ∧ ((xV t (xV t i).2.1).2.2.2.2.1 = 9 ∨ (xV t (xV t i).2.1).2.2.2.2.1 = 10) ∧ ((xV t (xV t i).2.1).2.1 = v ∨ (xV t (xV t i).2.1).2.2.1 = v) ∧ intsF t (xV t i).2.1 = true) := rfl
def lessI (t : ETrace) (i : Int) : Int := if (insV t (insV t i).2.1).2.2.2.2.1 = 9 then 1 else 0
def stepM (v : Int) (i : Int) (s : EVal) (m : M) : EVal × M :=
 if guardOf t v i then (if (insV t i).2.2.2.2.1 = 1 then narM rec s v (insV t (insV t i).2.1).2.1 (insV t (insV t i).2.1).2.2.1 (lessI t i) i m else narM rec s v (insV t (insV t i).2.1).2.2.1 (insV t (insV t i).2.1).2.1 (1 - lessI t i) i m) else (s, m)
def loopM (v : Int) : Nat → Int → EVal → M → EVal × M
 | 0, _, s, m => (s, m)
 | k + 1, i, s, m => loopM v k (i + 1) (stepM rec t v i s m).1 (stepM rec t v i s m).2
def bodyM (v at_ : Int) (m : M) : EVal × M := loopM rec t v (at_ - (v + 1)).toNat (v + 1) (itselfM rec t v m).1 (itselfM rec t v m).2
end
/-- Without what is kept. -/
def spanP (t : ETrace) : Nat → Int → Int → EVal
 | 0, _, _ => (0, 0)
 | n + 1, v, a => (bodyM (fun v a (m : Unit) => (spanP t n v a, m)) t v a ()).1
abbrev EMem := Nat × (EVal → Option EVal)
def spanM (t : ETrace) : Nat → Int → Int → EMem → EVal × EMem
 | 0, _, _, m => ((0, 0), m)
 | n + 1, v, a, m => match m.2 (v, a) with
  | some s => (s, m)
  | none => ((bodyM (spanM t n) t v a m).1, ((bodyM (spanM t n) t v a m).2.1 + 1, updM (kt := tVal) (bodyM (spanM t n) t v a m).2.2 (v, a) (bodyM (spanM t n) t v a m).1))
/-- What operands a trace's spans go to. -/
structure DomT (t : ETrace) : Prop where
 bin : ∀ i : Int, 0 ≤ i → i < (t.2.2.2.1.length : Int) → (insV t i).1 = 7 → 0 ≤ (insV t i).2.1 ∧ (insV t i).2.1 < i ∧ 0 ≤ (insV t i).2.2.1 ∧ (insV t i).2.2.1 < i
 un : ∀ i : Int, 0 ≤ i → i < (t.2.2.2.1.length : Int) → (insV t i).1 = 8 → 0 ≤ (insV t i).2.1 ∧ (insV t i).2.1 < i
 tru : ∀ i : Int, 0 ≤ i → i < (t.2.2.2.1.length : Int) → (insV t i).1 = 5 → 0 ≤ (insV t i).2.1 ∧ (insV t i).2.1 < i
structure SameX (t u : ETrace) : Prop where
 len : t.2.2.2.1.length = u.2.2.2.1.length
 op : ∀ v, (insV t v).1 = (insV u v).1
 a : ∀ v, (insV t v).2.1 = (insV u v).2.1
 b : ∀ v, (insV t v).2.2.1 = (insV u v).2.2.1
 n : ∀ v, (insV t v).2.2.2.2.1 = (insV u v).2.2.2.2.1
 k : ∀ v, (insV t v).2.2.2.2.2.2 = (insV u v).2.2.2.2.2.2
 kind : ∀ v a, kindF t v a = kindF u v a
theorem SameX.refl (t : ETrace) : SameX t t := ⟨rfl, fun _ => rfl, fun _ => rfl, fun _ => rfl, fun _ => rfl, fun _ => rfl, fun _ _ => rfl⟩
theorem SameX.ints {t u : ETrace} (h : SameX t u) (i : Int) : intsF t i = intsF u i := by unfold intsF; rw [h.a, h.b, h.kind, h.kind]
section
variable {M M' : Type} (V : M → M' → Prop)
/-- Two recursions that answer alike below a place. -/
def RelM (bd : Int) (rec : Int → Int → M → EVal × M) (rec' : Int → Int → M' → EVal × M') : Prop :=
 ∀ (v a : Int) (m : M) (m' : M'), 0 ≤ v → v < a → a < bd → V m m' → (rec v a m).1 = (rec' v a m').1 ∧ V (rec v a m).2 (rec' v a m').2
variable {V} {t u : ETrace} {bd : Int} {rec : Int → Int → M → EVal × M} {rec' : Int → Int → M' → EVal × M'} (hs : SameX t u) (hd : DomT t) (hr : RelM V bd rec rec')
include hs hd hr
theorem reckM_rel {v : Int} {m : M} {m' : M'} (h0 : 0 ≤ v) (hv : v < bd) (hl : v < (t.2.2.2.1.length : Int)) (ho : (insV t v).1 = 7) (hm : V m m') : (reckM rec t v m).1 = (reckM rec' u v m').1 ∧ V (reckM rec t v m).2 (reckM rec' u v m').2 := by
 obtain ⟨a0, a1, b0, b1⟩ := hd.bin v h0 hl ho
 obtain ⟨e1, v1⟩ := hr _ v m m' a0 a1 hv hm
 obtain ⟨e2, v2⟩ := hr _ v _ _ b0 b1 hv v1
 unfold reckM
 rw [← hs.a, ← hs.b, ← hs.n, e1, e2]
 exact ⟨rfl, v2⟩
theorem modM_rel {v : Int} {m : M} {m' : M'} (h0 : 0 ≤ v) (hv : v < bd) (hl : v < (t.2.2.2.1.length : Int)) (ho : (insV t v).1 = 7) (hm : V m m') : (modM rec t v m).1 = (modM rec' u v m').1 ∧ V (modM rec t v m).2 (modM rec' u v m').2 := by
 obtain ⟨a0, a1, b0, b1⟩ := hd.bin v h0 hl ho
 obtain ⟨e1, v1⟩ := hr _ v m m' b0 b1 hv hm
 obtain ⟨e2, v2⟩ := hr _ v _ _ a0 a1 hv v1
 unfold modM
 rw [← hs.a, ← hs.b, ← hs.n]
 split
 ·rw [e1]
  split
  ·rw [e2]; exact ⟨rfl, v2⟩
  ·exact ⟨rfl, v1⟩
 ·exact ⟨rfl, v1⟩
theorem itselfM_rel {v : Int} {m : M} {m' : M'} (h0 : 0 ≤ v) (hv : v < bd) (hl : v < (t.2.2.2.1.length : Int)) (hm : V m m') : (itselfM rec t v m).1 = (itselfM rec' u v m').1 ∧ V (itselfM rec t v m).2 (itselfM rec' u v m').2 := by
 unfold itselfM
 rw [← hs.op, ← hs.k, ← hs.ints]
 split
 ·exact ⟨rfl, hm⟩
 ·split
  ·exact ⟨rfl, hm⟩
  ·split
   ·exact ⟨rfl, hm⟩
   ·rename_i ho
    have ho : (insV t v).1 = 7 := Decidable.not_not.1 ho
    obtain ⟨e1, v1⟩ := reckM_rel hs hd hr h0 hv hl ho hm
    split
    ·exact ⟨rfl, hm⟩
    ·rw [e1]
     split
     ·exact ⟨rfl, v1⟩
     ·exact modM_rel hs hd hr h0 hv hl ho v1
omit hs hd in
theorem narM_rel {s : EVal} {v a b d i : Int} {m : M} {m' : M'} (ha : 0 ≤ a ∧ a < i) (hb : 0 ≤ b ∧ b < i) (hi : i < bd) (hm : V m m') : (narM rec s v a b d i m).1 = (narM rec' s v a b d i m').1 ∧ V (narM rec s v a b d i m).2 (narM rec' s v a b d i m').2 := by
 have k1 : (narHi rec s v a b d i m).1 = (narHi rec' s v a b d i m').1 ∧ V (narHi rec s v a b d i m).2 (narHi rec' s v a b d i m').2 := by
  unfold narHi
  obtain ⟨e1, v1⟩ := hr _ i m m' hb.1 hb.2 hi hm
  split
  ·rw [e1]; exact ⟨rfl, v1⟩
  ·exact ⟨rfl, hm⟩
 unfold narM
 rw [k1.1]
 unfold narLo
 obtain ⟨e1, v1⟩ := hr _ i _ _ ha.1 ha.2 hi k1.2
 split
 ·rw [e1]; exact ⟨rfl, v1⟩
 ·exact ⟨rfl, k1.2⟩
theorem stepM_rel {s : EVal} {v i : Int} {m : M} {m' : M'} (h0 : 0 ≤ i) (hi : i < bd) (hl : i < (t.2.2.2.1.length : Int)) (hm : V m m') : (stepM rec t v i s m).1 = (stepM rec' u v i s m').1 ∧ V (stepM rec t v i s m).2 (stepM rec' u v i s m').2 := by
 have eg : guardOf t v i = guardOf u v i := by unfold guardOf; rw [hs.op, hs.a, hs.op, hs.n, hs.a (insV u i).2.1, hs.b, hs.ints]
 have el : lessI t i = lessI u i := by unfold lessI; rw [hs.a, hs.n]
 unfold stepM
 by_cases hg : guardOf t v i
 ·have hg' : guardOf u v i := eg ▸ hg
  rw [if_pos hg, if_pos hg']
  obtain ⟨g1, g2, _⟩ := hg
  obtain ⟨q0, q1⟩ := hd.tru i h0 hl g1
  obtain ⟨a0, a1, b0, b1⟩ := hd.bin _ q0 (by omega) g2
  rw [← hs.n i, ← el, ← hs.a i, ← hs.a (insV t i).2.1, ← hs.b (insV t i).2.1]
  split
  ·exact narM_rel hr ⟨a0, by omega⟩ ⟨b0, by omega⟩ hi hm
  ·exact narM_rel hr ⟨b0, by omega⟩ ⟨a0, by omega⟩ hi hm
 ·have hg' : ¬ guardOf u v i := eg ▸ hg
  rw [if_neg hg, if_neg hg']
  exact ⟨rfl, hm⟩
theorem loopM_rel {v : Int} : ∀ (k : Nat) {s : EVal} {i : Int} {m : M} {m' : M'}, 0 ≤ i → i + k ≤ bd → i + k ≤ (t.2.2.2.1.length : Int) → V m m' → (loopM rec t v k i s m).1 = (loopM rec' u v k i s m').1 ∧ V (loopM rec t v k i s m).2 (loopM rec' u v k i s m').2
 | 0, s, i, m, m', _, _, _, hm => ⟨rfl, hm⟩
 | k + 1, s, i, m, m', h0, hi, hl, hm => by
  obtain ⟨e1, v1⟩ := stepM_rel hs hd hr (s := s) (v := v) h0 (by omega) (by omega) hm
  unfold loopM
  rw [e1]
  exact loopM_rel k (by omega) (by omega) (by omega) v1
theorem bodyM_rel {v a : Int} {m : M} {m' : M'} (h0 : 0 ≤ v) (hv : v < a) (ha : a ≤ bd) (hl : a ≤ (t.2.2.2.1.length : Int)) (hm : V m m') : (bodyM rec t v a m).1 = (bodyM rec' u v a m').1 ∧ V (bodyM rec t v a m).2 (bodyM rec' u v a m').2 := by
 obtain ⟨e1, v1⟩ := itselfM_rel hs hd hr (v := v) h0 (by omega) (by omega) hm
 unfold bodyM
 rw [e1]
 exact loopM_rel hs hd hr _ (by omega) (by omega) (by omega) v1
end
theorem spanP_more {t u : ETrace} (hs : SameX t u) (hd : DomT t) : ∀ (n n' : Nat) (v a : Int), a.toNat < n → a.toNat < n' → 0 ≤ v → v < a → a ≤ (t.2.2.2.1.length : Int) → spanP t n v a = spanP u n' v a
 | 0, _, _, _, h, _, _, _, _ => absurd h (Nat.not_lt_zero _)
 | _ + 1, 0, _, _, _, h, _, _, _ => absurd h (Nat.not_lt_zero _)
 | n + 1, n' + 1, v, a, h, h', h0, hv, hl => (bodyM_rel (V := fun (_ _ : Unit) => True) (bd := a) hs hd (rec := fun v a (m : Unit) => (spanP t n v a, m)) (rec' := fun v a (m : Unit) => (spanP u n' v a, m)) (fun v' a' _ _ q0 q1 q2 _ => ⟨spanP_more hs hd n n' v' a' (by omega) (by omega) q0 q1 (by omega), trivial⟩) h0 hv (Int.le_refl _) hl (m := ()) (m' := ()) trivial).1
def spanF (t : ETrace) (v a : Int) : EVal := spanP t (a.toNat + 1) v a
/-! what is kept -/
def cntM (N : Nat) (f : EVal → Option EVal) : Nat := ((List.range N).flatMap fun v => (List.range (N + 1)).map fun a => (((v : Nat) : Int), ((a : Nat) : Int))).countP fun k => (f k).isSome
theorem countP_less {α : Type} {p q : α → Bool} : ∀ {l : List α}, (∀ x ∈ l, p x = true → q x = true) → ∀ {y : α}, y ∈ l → p y = false → q y = true → l.countP p + 1 ≤ l.countP q
 | [], _, y, h, _, _ => by cases h
 | x :: l, hpq, y, h, h1, h2 => by
  have hl : l.countP p ≤ l.countP q := List.countP_mono_left fun z hz => hpq z (List.mem_cons_of_mem _ hz)
  rw [List.countP_cons, List.countP_cons]
  rcases List.mem_cons.1 h with rfl | h
  ·rw [h1, h2]; simp; omega
  ·have := countP_less (fun z hz => hpq z (List.mem_cons_of_mem _ hz)) h h1 h2
   have h3 := hpq x (List.mem_cons_self ..)
   cases hp : p x with
   | false => simp; omega
   | true => rw [h3 hp]; simp; omega
theorem cntM_le (N : Nat) (f : EVal → Option EVal) : cntM N f ≤ N * (N + 1) := by
 refine Nat.le_trans (List.countP_le_length ..) ?_
 have h : ∀ k, ((List.range k).map fun _ => N + 1).sum = k * (N + 1) := fun k => by
  induction k with
  | zero => simp
  | succ k ih => rw [List.range_succ, List.map_append, List.sum_append, ih, Nat.succ_mul]; simp
 rw [List.length_flatMap]
 simp only [List.length_map, List.length_range]
 exact Nat.le_of_eq (h N)
theorem cntM_put {N : Nat} {f : EVal → Option EVal} {v a : Int} {s : EVal} (hv : 0 ≤ v ∧ v < (N : Int)) (ha : 0 ≤ a ∧ a ≤ (N : Int)) (hf : f (v, a) = none) : cntM N f + 1 ≤ cntM N (updM (kt := tVal) f (v, a) s) := by
 refine countP_less (y := (v, a)) (fun x _ h => ?_) ?_ (by rw [hf]; rfl) (by unfold updM; rw [if_pos rfl]; rfl)
 ·unfold updM
  split
  ·rfl
  ·exact h
 ·refine List.mem_flatMap.2 ⟨v.toNat, List.mem_range.2 (by omega), List.mem_map.2 ⟨a.toNat, List.mem_range.2 (by omega), ?_⟩⟩
  rw [Int.toNat_of_nonneg hv.1, Int.toNat_of_nonneg ha.1]
structure KeptOk (t : ETrace) (m : EMem) : Prop where
 so : ∀ v a s, m.2 (v, a) = some s → s = spanF t v a
 cnt : m.1 ≤ cntM t.2.2.2.1.length m.2
theorem KeptOk.less {t : ETrace} {m : EMem} (h : KeptOk t m) : m.1 ≤ t.2.2.2.1.length * (t.2.2.2.1.length + 1) := Nat.le_trans h.cnt (cntM_le _ _)
/-- Nothing is kept at a place that is later. -/
def BelowM (a : Int) (m m2 : EMem) : Prop := ∀ v b, a ≤ b → m2.2 (v, b) = m.2 (v, b)
theorem spanM_ok {t : ETrace} (hd : DomT t) : ∀ (n : Nat) (v a : Int) (m : EMem), a.toNat < n → 0 ≤ v → v < a → a ≤ (t.2.2.2.1.length : Int) → KeptOk t m → (spanM t n v a m).1 = spanF t v a ∧ KeptOk t (spanM t n v a m).2 ∧ BelowM (a + 1) m (spanM t n v a m).2
 | 0, _, _, _, h, _, _, _, _ => absurd h (Nat.not_lt_zero _)
 | n + 1, v, a, m, h, h0, hv, hl, hm => by
  unfold spanM
  cases hq : m.2 (v, a) with
  | some s => exact ⟨hm.so v a s hq, hm, fun _ _ _ => rfl⟩
  | none =>
   obtain ⟨e, ⟨k1, k2⟩⟩ := bodyM_rel (V := fun (x : EMem) (_ : Unit) => KeptOk t x ∧ BelowM a m x) (bd := a) (SameX.refl t) hd (rec := spanM t n) (rec' := fun v a (m : Unit) => (spanP t a.toNat.succ v a, m)) (fun v' a' x _ q0 q1 q2 ⟨x1, x2⟩ => by
    obtain ⟨w1, w2, w3⟩ := spanM_ok hd n v' a' x (by omega) q0 q1 (by omega) x1
    exact ⟨w1, w2, fun y b hb => (w3 y b (by omega)).trans (x2 y b hb)⟩) h0 hv (Int.le_refl _) hl (m := m) (m' := ()) ⟨hm, fun _ _ _ => rfl⟩
   have e2 : (bodyM (spanM t n) t v a m).1 = spanF t v a := e.trans (bodyM_rel (V := fun (_ _ : Unit) => True) (bd := a) (SameX.refl t) hd (rec := fun v a (m : Unit) => (spanP t a.toNat.succ v a, m)) (rec' := fun v a' (m : Unit) => (spanP t a.toNat v a', m)) (fun v' a' _ _ q0 q1 q2 _ => ⟨spanP_more (SameX.refl t) hd _ _ v' a' (by omega) (by omega) q0 q1 (by omega), trivial⟩) h0 hv (Int.le_refl _) hl (m := ()) (m' := ()) trivial).1
   refine ⟨e2, ⟨fun v' a' s hs => ?_, ?_⟩, fun y b hb => ?_⟩
   ·simp only [updM] at hs
    split at hs
    ·rename_i he
     injection hs with hs
     injection he with h1 h2
     rw [← hs, e2, h1, h2]
    ·exact k1.so v' a' s hs
   ·have hn : (bodyM (spanM t n) t v a m).2.2 (v, a) = none := by rw [k2 v a (Int.le_refl _)]; exact hq
    exact Nat.le_trans (Nat.succ_le_succ k1.cnt) (cntM_put ⟨h0, by omega⟩ ⟨by omega, hl⟩ hn)
   ·simp only [updM]
    rw [if_neg (by intro he; injection he with h1 h2; omega)]
    exact k2 y b (by omega)
end Go.Proofs.YtefkifdhjabdiaaDoor
namespace Go.Proofs.YtefkifdhjabdiaaDoor
set_option linter.unusedVariables false
set_option linter.unusedSimpArgs false
def InB (s : EVal) : Prop := -2147483648 ≤ s.1 ∧ s.1 ≤ s.2 ∧ s.2 ≤ 2147483647
theorem cutN_in (n : Int) : -2147483648 ≤ cutN n ∧ cutN n ≤ 2147483647 := by
 unfold cutN
 repeat' split
 all_goals omega
theorem cutN_mono {a b : Int} (h : a ≤ b) : cutN a ≤ cutN b := by
 unfold cutN
 repeat' split
 all_goals omega
theorem min2_le (a b : Int) : min2 a b ≤ a ∧ min2 a b ≤ b := by unfold min2; split <;> omega
theorem max2_le (a b : Int) : a ≤ max2 a b ∧ b ≤ max2 a b := by unfold max2; split <;> omega
theorem min2_or (a b : Int) : min2 a b = a ∨ min2 a b = b := by unfold min2; split <;> simp
theorem max2_or (a b : Int) : max2 a b = a ∨ max2 a b = b := by unfold max2; split <;> simp
theorem minL_le : ∀ (l : List Int) (m : Int), minL m l ≤ m
 | [], m => Int.le_refl _
 | x :: r, m => Int.le_trans (minL_le r _) (min2_le m x).1
theorem maxL_le : ∀ (l : List Int) (m : Int), m ≤ maxL m l
 | [], m => Int.le_refl _
 | x :: r, m => Int.le_trans (max2_le m x).1 (maxL_le r _)
theorem minL_mem : ∀ (l : List Int) (m : Int), minL m l ∈ m :: l
 | [], m => by simp [minL]
 | x :: r, m => by
  have := minL_mem r (min2 m x)
  unfold minL
  rcases List.mem_cons.1 this with h | h
  ·rw [h]; rcases min2_or m x with e | e <;> simp [e]
  ·exact List.mem_cons_of_mem _ (List.mem_cons_of_mem _ h)
theorem maxL_mem : ∀ (l : List Int) (m : Int), maxL m l ∈ m :: l
 | [], m => by simp [maxL]
 | x :: r, m => by
  have := maxL_mem r (max2 m x)
  unfold maxL
  rcases List.mem_cons.1 this with h | h
  ·rw [h]; rcases max2_or m x with e | e <;> simp [e]
  ·exact List.mem_cons_of_mem _ (List.mem_cons_of_mem _ h)
theorem mul_in {a b : Int} (ha : -2147483648 ≤ a ∧ a ≤ 2147483648) (hb : -2147483648 ≤ b ∧ b ≤ 2147483648) : -4611686018427387904 ≤ a * b ∧ a * b ≤ 4611686018427387904 := by
 have h : (a * b).natAbs ≤ 2147483648 * 2147483648 := by
  rw [Int.natAbs_mul]
  exact Nat.mul_le_mul (by omega) (by omega)
 omega
theorem recB_in {n : Int} {a b : EVal} (ha : InB a) (hb : InB b) : (recB n a b).1.1 ≤ (recB n a b).1.2 ∧ -4611686018427387904 ≤ (recB n a b).1.1 ∧ (recB n a b).1.2 ≤ 4611686018427387904 := by
 unfold InB at ha hb
 unfold recB
 split
 ·simp only; omega
 ·split
  ·simp only; omega
  ·split
   ·have h1 := mul_in (a := a.1) (b := b.1) (by omega) (by omega)
    have h2 := mul_in (a := a.1) (b := b.2) (by omega) (by omega)
    have h3 := mul_in (a := a.2) (b := b.1) (by omega) (by omega)
    have h4 := mul_in (a := a.2) (b := b.2) (by omega) (by omega)
    refine ⟨Int.le_trans (minL_le _ _) (maxL_le _ _), show -4611686018427387904 ≤ minL (a.1 * b.1) [a.1 * b.2, a.2 * b.1, a.2 * b.2] from ?_, show maxL (a.1 * b.1) [a.1 * b.2, a.2 * b.1, a.2 * b.2] ≤ 4611686018427387904 from ?_⟩
    ·have := minL_mem [a.1 * b.2, a.2 * b.1, a.2 * b.2] (a.1 * b.1)
     simp only [List.mem_cons, List.not_mem_nil, or_false] at this
     rcases this with e | e | e | e <;> rw [e] <;> omega
    ·have := maxL_mem [a.1 * b.2, a.2 * b.1, a.2 * b.2] (a.1 * b.1)
     simp only [List.mem_cons, List.not_mem_nil, or_false] at this
     rcases this with e | e | e | e <;> rw [e] <;> omega
   ·decide
theorem hiB_in {s : EVal} (h : InB s) (q : Int) : InB (hiB s q) ∧ s.1 ≤ (hiB s q).1 ∧ (hiB s q).2 ≤ s.2 := by
 unfold hiB InB at *
 have := min2_le s.2 q
 split
 ·simp only; omega
 ·omega
theorem loB_in {s : EVal} (h : InB s) (q : Int) : InB (loB s q) ∧ s.1 ≤ (loB s q).1 ∧ (loB s q).2 ≤ s.2 := by
 unfold loB InB at *
 have := max2_le s.1 q
 split
 ·simp only; omega
 ·omega
theorem modB_in {a b : EVal} (ha : InB a) (hb : InB b) (h : 1 ≤ b.1) : InB (modB b a) := by
 unfold modB InB at *
 split
 ·simp only; omega
 ·simp only; omega
theorem allB_in : InB allB := ⟨by decide, by decide, by decide⟩
theorem cntB_in : InB (0, 600) := ⟨by decide, by decide, by decide⟩
structure DomC (t : ETrace) : Prop extends DomT t where
 con : ∀ i : Int, 0 ≤ i → i < (t.2.2.2.1.length : Int) → (insV t i).1 = 2 → (insV t i).2.2.2.2.2.2.1 = 2 → -2147483648 ≤ (insV t i).2.2.2.2.2.2.2 ∧ (insV t i).2.2.2.2.2.2.2 ≤ 2147483647
section
variable {M : Type} {t : ETrace} {bd : Int} {rec : Int → Int → M → EVal × M}
def RecIn (bd : Int) (rec : Int → Int → M → EVal × M) (V : M → Prop) : Prop := ∀ (v a : Int) (m : M), 0 ≤ v → v < a → a < bd → V m → InB (rec v a m).1 ∧ V (rec v a m).2
variable {V : M → Prop} (hd : DomC t) (hr : RecIn bd rec V)
include hd hr
theorem itselfM_in {v : Int} {m : M} (h0 : 0 ≤ v) (hv : v < bd) (hl : v < (t.2.2.2.1.length : Int)) (hm : V m) : InB (itselfM rec t v m).1 := by
 unfold itselfM
 split
 ·rename_i h
  have := hd.con v h0 hl h.1 h.2
  unfold InB
  simp only
  omega
 ·split
  ·exact cntB_in
  ·split
   ·exact allB_in
   ·rename_i ho
    have ho : (insV t v).1 = 7 := Decidable.not_not.1 ho
    obtain ⟨a0, a1, b0, b1⟩ := hd.bin v h0 hl ho
    obtain ⟨i1, v1⟩ := hr _ v m a0 a1 hv hm
    obtain ⟨i2, v2⟩ := hr _ v _ b0 b1 hv v1
    split
    ·exact allB_in
    ·split
     ·have := recB_in (n := (insV t v).2.2.2.2.1) i1 i2
      exact ⟨(cutN_in _).1, cutN_mono this.1, (cutN_in _).2⟩
     ·unfold modM
      split
      ·obtain ⟨j1, w1⟩ := hr _ v (reckM rec t v m).2 b0 b1 hv v2
       obtain ⟨j2, w2⟩ := hr _ v _ a0 a1 hv w1
       split
       ·exact modB_in j2 j1 (by assumption)
       ·exact allB_in
      ·exact allB_in
omit hd hr in
theorem narM_in {s : EVal} (hs : InB s) (v a b d i : Int) (m : M) : InB (narM rec s v a b d i m).1 ∧ s.1 ≤ (narM rec s v a b d i m).1.1 ∧ (narM rec s v a b d i m).1.2 ≤ s.2 := by
 have k1 : InB (narHi rec s v a b d i m).1 ∧ s.1 ≤ (narHi rec s v a b d i m).1.1 ∧ (narHi rec s v a b d i m).1.2 ≤ s.2 := by
  unfold narHi
  split
  ·exact hiB_in hs _
  ·exact ⟨hs, Int.le_refl _, Int.le_refl _⟩
 unfold narM narLo
 split
 ·have := loB_in k1.1 ((rec a i (narHi rec s v a b d i m).2).1.1 + d)
  exact ⟨this.1, Int.le_trans k1.2.1 this.2.1, Int.le_trans this.2.2 k1.2.2⟩
 ·exact k1
omit hd hr in
theorem stepM_in {s : EVal} (hs : InB s) (v i : Int) (m : M) : InB (stepM rec t v i s m).1 ∧ s.1 ≤ (stepM rec t v i s m).1.1 ∧ (stepM rec t v i s m).1.2 ≤ s.2 := by
 unfold stepM
 split
 ·split <;> exact narM_in hs ..
 ·exact ⟨hs, Int.le_refl _, Int.le_refl _⟩
omit hd hr in
theorem loopM_in {v : Int} : ∀ (k : Nat) {s : EVal} (hs : InB s) (i : Int) (m : M), InB (loopM rec t v k i s m).1 ∧ s.1 ≤ (loopM rec t v k i s m).1.1 ∧ (loopM rec t v k i s m).1.2 ≤ s.2
 | 0, s, hs, i, m => ⟨hs, Int.le_refl _, Int.le_refl _⟩
 | k + 1, s, hs, i, m => by
  have h1 := stepM_in (rec := rec) (t := t) hs v i m
  have h2 := loopM_in (v := v) k h1.1 (i + 1) (stepM rec t v i s m).2
  exact ⟨h2.1, Int.le_trans h1.2.1 h2.2.1, Int.le_trans h2.2.2 h1.2.2⟩
theorem bodyM_in {v a : Int} {m : M} (h0 : 0 ≤ v) (hv : v < a) (ha : a ≤ bd) (hl : a ≤ (t.2.2.2.1.length : Int)) (hm : V m) : InB (bodyM rec t v a m).1 :=
 (loopM_in _ (itselfM_in hd hr h0 (by omega) (by omega) hm) _ _).1
end
theorem spanP_in {t : ETrace} (hd : DomC t) : ∀ (n : Nat) (v a : Int), a.toNat < n → 0 ≤ v → v < a → a ≤ (t.2.2.2.1.length : Int) → InB (spanP t n v a)
 | 0, _, _, h, _, _, _ => absurd h (Nat.not_lt_zero _)
 | n + 1, v, a, h, h0, hv, hl => bodyM_in (V := fun _ => True) (bd := a) hd (fun v' a' _ q0 q1 q2 _ => ⟨spanP_in hd n v' a' (by omega) q0 q1 (by omega), trivial⟩) h0 hv (Int.le_refl _) hl trivial
theorem spanF_in {t : ETrace} (hd : DomC t) {v a : Int} (h0 : 0 ≤ v) (hv : v < a) (hl : a ≤ (t.2.2.2.1.length : Int)) : InB (spanF t v a) := spanP_in hd _ v a (by omega) h0 hv hl
theorem loopM_split {M : Type} {t : ETrace} {rec : Int → Int → M → EVal × M} {v : Int} : ∀ (k j : Nat) (i : Int) (s : EVal) (m : M), loopM rec t v (k + j) i s m = loopM rec t v j (i + k) (loopM rec t v k i s m).1 (loopM rec t v k i s m).2
 | 0, j, i, s, m => by simp [loopM]
 | k + 1, j, i, s, m => by
  rw [show k + 1 + j = (k + j) + 1 by omega]
  rw [show i + ((k + 1 : Nat) : Int) = i + 1 + (k : Int) by omega]
  show loopM rec t v (k + j) (i + 1) _ _ = loopM rec t v j (i + 1 + k) (loopM rec t v k (i + 1) _ _).1 (loopM rec t v k (i + 1) _ _).2
  exact loopM_split k j _ _ _
theorem spanF_later {t : ETrace} (hd : DomC t) {v a b : Int} (h0 : 0 ≤ v) (hv : v < a) (hab : a ≤ b) (hl : b ≤ (t.2.2.2.1.length : Int)) : (spanF t v a).1 ≤ (spanF t v b).1 ∧ (spanF t v b).2 ≤ (spanF t v a).2 := by
 have e : spanF t v b = (loopM (fun v a (m : Unit) => (spanP t b.toNat v a, m)) t v (b - a).toNat a (spanF t v a) ()).1 := by
  have e0 : spanF t v a = spanP t (b.toNat + 1) v a := spanP_more (SameX.refl t) hd.toDomT _ _ v a (by omega) (by omega) h0 hv (by omega)
  rw [e0]
  show (bodyM (fun v a (m : Unit) => (spanP t b.toNat v a, m)) t v b ()).1 = (loopM _ t v _ a (bodyM (fun v a (m : Unit) => (spanP t b.toNat v a, m)) t v a ()).1 ()).1
  unfold bodyM
  rw [show (b - (v + 1)).toNat = (a - (v + 1)).toNat + (b - a).toNat by omega, loopM_split]
  rw [show v + 1 + (((a - (v + 1)).toNat : Nat) : Int) = a by omega]
 rw [e]
 exact (loopM_in _ (spanF_in hd h0 hv (by omega)) _ _).2
theorem kOk_of {c : EChk} {f : EForm} {x : EIns} {a : Int} (h : formedF c f x a = true) : kOk f x = true := by
 unfold formedF tailF tail2F at h
 cases hk : kOk f x with
 | true => rfl
 | false => simp [hk] at h
theorem dom_of {p : EProg} {t : ETrace} (hc : CheckOk p t) : DomC t := by
 have hl : ∀ i : Int, 0 ≤ i → i < (t.2.2.2.1.length : Int) → i.toNat < t.2.2.2.1.length := fun i h0 h1 => by omega
 refine { bin := fun i h0 h1 ho => ?_, un := fun i h0 h1 ho => ?_, tru := fun i h0 h1 ho => ?_, con := fun i h0 h1 ho hk => ?_ }
 ·obtain ⟨q0, q1, _⟩ := ask_in hc (hl i h0 h1)
  have e : (askF (insV t i)).length = 2 := by unfold askF; rw [ho]; rfl
  unfold insV at e
  rw [e] at q0 q1
  have r0 := q0 (by decide)
  have r1 := q1 (by decide)
  unfold insV
  omega
 ·obtain ⟨q0, _, _⟩ := ask_in hc (hl i h0 h1)
  have e : (askF (insV t i)).length = 1 := by unfold askF; rw [ho]; rfl
  unfold insV at e
  rw [e] at q0
  have r0 := q0 (by decide)
  unfold insV
  omega
 ·obtain ⟨q0, _, _⟩ := ask_in hc (hl i h0 h1)
  have e : (askF (insV t i)).length = 1 := by unfold askF; rw [ho]; rfl
  unfold insV at e
  rw [e] at q0
  have r0 := q0 (by decide)
  unfold insV
  omega
 ·have ex : t.2.2.2.1[i.toNat]? = some (insV t i) := by unfold insV; rw [List.getD_eq_getElem?_getD, List.getElem?_eq_getElem (hl i h0 h1)]; rfl
  obtain ⟨_, h2⟩ := hc.ins _ _ ex
  have h3 := kOk_of h2
  rw [ho] at h3
  have h4 : rightVF (insV t i).2.2.2.2.2.2 = true := h3
  unfold rightVF rightF at h4
  simp only [hk] at h4
  have h5 : withinF (insV t i).2.2.2.2.2.2.2 (-2147483648) 2147483647 = true := h4
  simp only [withinF, Bool.and_eq_true, decide_eq_true_eq] at h5
  exact h5
theorem spanM_rel {t : ETrace} (hd : DomT t) {k : Nat} {bd : Int} (hk : bd.toNat ≤ k) (hl : bd ≤ (t.2.2.2.1.length : Int)) : RelM (fun (x : EMem) (_ : Unit) => KeptOk t x) bd (spanM t k) (fun v a (m : Unit) => (spanF t v a, m)) := fun v a m _ h0 hv ha hm => by
 obtain ⟨e, h, _⟩ := spanM_ok hd k v a m (by omega) h0 hv (by omega) hm
 exact ⟨e, h⟩
theorem KeptOk.small {t : ETrace} {n : Nat} {m : EVal → Option EVal} (h : KeptOk t (n, m)) (hL : t.2.2.2.1.length ≤ 300) : n ≤ 90300 := by
 have h1 := h.less
 have h2 : t.2.2.2.1.length * (t.2.2.2.1.length + 1) ≤ 300 * 301 := Nat.mul_le_mul hL (by omega)
 simp only at h1
 omega
theorem spanM_hit {t : ETrace} {k : Nat} {v a : Int} {n : Nat} {m : EVal → Option EVal} (h : (m (v, a)).isSome = true) : spanM t (k + 1) v a (n, m) = ((m (v, a)).getD (0, 0), (n, m)) := by
 unfold spanM
 cases hq : m (v, a) with
 | none => rw [hq] at h; cases h
 | some s => simp only [hq]; rfl
theorem spanM_miss {t : ETrace} {k : Nat} {v a : Int} {n : Nat} {m : EVal → Option EVal} (h : (m (v, a)).isSome = false) : spanM t (k + 1) v a (n, m) = ((loopM (spanM t k) t v (a - (v + 1)).toNat (v + 1) (itselfM (spanM t k) t v (n, m)).1 (itselfM (spanM t k) t v (n, m)).2).1, ((loopM (spanM t k) t v (a - (v + 1)).toNat (v + 1) (itselfM (spanM t k) t v (n, m)).1 (itselfM (spanM t k) t v (n, m)).2).2.1 + 1, updM (kt := tVal) (loopM (spanM t k) t v (a - (v + 1)).toNat (v + 1) (itselfM (spanM t k) t v (n, m)).1 (itselfM (spanM t k) t v (n, m)).2).2.2 (v, a) (loopM (spanM t k) t v (a - (v + 1)).toNat (v + 1) (itselfM (spanM t k) t v (n, m)).1 (itselfM (spanM t k) t v (n, m)).2).1)) := by
 rw [spanM]
 cases hq : m (v, a) with
 | none => simp only [hq]; rfl
 | some s => rw [hq] at h; cases h
section
variable {M : Type} {rec : Int → Int → M → EVal × M} {t : ETrace} {v a : Int} {i : Int} {s : EVal} {m : M}
theorem loopM_no (hi : i < a) (h : ¬ guardOf t v i) : loopM rec t v (a - i).toNat i s m = loopM rec t v (a - (i + 1)).toNat (i + 1) s m := by
 rw [show (a - i).toNat = (a - (i + 1)).toNat + 1 by omega, loopM, stepM, if_neg h]
theorem loopM_1 (hi : i < a) (h : guardOf t v i) (h1 : (insV t i).2.2.2.2.1 = 1) {d : Int} (hd : lessI t i = d) : loopM rec t v (a - i).toNat i s m = loopM rec t v (a - (i + 1)).toNat (i + 1) (narM rec s v (insV t (insV t i).2.1).2.1 (insV t (insV t i).2.1).2.2.1 d i m).1 (narM rec s v (insV t (insV t i).2.1).2.1 (insV t (insV t i).2.1).2.2.1 d i m).2 := by
 rw [show (a - i).toNat = (a - (i + 1)).toNat + 1 by omega, loopM, stepM, if_pos h, if_pos h1, hd]
theorem loopM_2 (hi : i < a) (h : guardOf t v i) (h1 : ¬ (insV t i).2.2.2.2.1 = 1) {d : Int} (hd : 1 - lessI t i = d) : loopM rec t v (a - i).toNat i s m = loopM rec t v (a - (i + 1)).toNat (i + 1) (narM rec s v (insV t (insV t i).2.1).2.2.1 (insV t (insV t i).2.1).2.1 d i m).1 (narM rec s v (insV t (insV t i).2.1).2.2.1 (insV t (insV t i).2.1).2.1 d i m).2 := by
 rw [show (a - i).toNat = (a - (i + 1)).toNat + 1 by omega, loopM, stepM, if_pos h, if_neg h1, hd]
theorem itM_con (h : (insV t v).1 = 2) (h1 : (insV t v).2.2.2.2.2.2.1 = 2) : itselfM rec t v m = (((insV t v).2.2.2.2.2.2.2, (insV t v).2.2.2.2.2.2.2), m) := if_pos ⟨h, h1⟩
variable (hc : ¬ ((insV t v).1 = 2 ∧ (insV t v).2.2.2.2.2.2.1 = 2))
include hc
theorem itM_cnt (h : (insV t v).1 = 15) : itselfM rec t v m = ((0, 600), m) := by rw [itselfM, if_neg hc, if_pos h]
theorem itM_all (h : ¬ (insV t v).1 = 15) (h1 : ¬ (insV t v).1 = 7) : itselfM rec t v m = (allB, m) := by rw [itselfM, if_neg hc, if_neg h, if_pos h1]
theorem itM_ints (h : ¬ (insV t v).1 = 15) (h1 : (insV t v).1 = 7) (h2 : intsF t v = false) : itselfM rec t v m = (allB, m) := by rw [itselfM, if_neg hc, if_neg h, if_neg (fun q => q h1), if_pos h2]
theorem itM_rec (h : ¬ (insV t v).1 = 15) (h1 : (insV t v).1 = 7) (h2 : intsF t v = true) (h3 : (reckM rec t v m).1.2 = true) : itselfM rec t v m = ((cutN (reckM rec t v m).1.1.1, cutN (reckM rec t v m).1.1.2), (reckM rec t v m).2) := by rw [itselfM, if_neg hc, if_neg h, if_neg (fun q => q h1), if_neg (by rw [h2]; decide), if_pos h3]
theorem itM_mod (h : ¬ (insV t v).1 = 15) (h1 : (insV t v).1 = 7) (h2 : intsF t v = true) (h3 : (reckM rec t v m).1.2 = false) : itselfM rec t v m = modM rec t v (reckM rec t v m).2 := by rw [itselfM, if_neg hc, if_neg h, if_neg (fun q => q h1), if_neg (by rw [h2]; decide), if_neg (by rw [h3]; decide)]
omit hc
theorem modM_1 (h0 : (insV t v).2.2.2.2.1 = 7) (h1 : 1 ≤ (rec (insV t v).2.2.1 v m).1.1) (h2 : 0 ≤ (rec (insV t v).2.1 v (rec (insV t v).2.2.1 v m).2).1.1) : modM rec t v m = ((0, (rec (insV t v).2.2.1 v m).1.2 - 1), (rec (insV t v).2.1 v (rec (insV t v).2.2.1 v m).2).2) := by rw [modM, if_pos h0, if_pos h1, modB, if_pos h2]
theorem modM_2 (h0 : (insV t v).2.2.2.2.1 = 7) (h1 : 1 ≤ (rec (insV t v).2.2.1 v m).1.1) (h2 : ¬ 0 ≤ (rec (insV t v).2.1 v (rec (insV t v).2.2.1 v m).2).1.1) : modM rec t v m = ((0 - ((rec (insV t v).2.2.1 v m).1.2 - 1), (rec (insV t v).2.2.1 v m).1.2 - 1), (rec (insV t v).2.1 v (rec (insV t v).2.2.1 v m).2).2) := by rw [modM, if_pos h0, if_pos h1, modB, if_neg h2]
theorem modM_3 (h0 : (insV t v).2.2.2.2.1 = 7) (h1 : ¬ 1 ≤ (rec (insV t v).2.2.1 v m).1.1) : modM rec t v m = (allB, (rec (insV t v).2.2.1 v m).2) := by rw [modM, if_pos h0, if_neg h1]
theorem modM_4 (h0 : ¬ (insV t v).2.2.2.2.1 = 7) : modM rec t v m = (allB, (rec (insV t v).2.2.1 v m).2) := by rw [modM, if_neg h0]
end
end Go.Proofs.YtefkifdhjabdiaaDoor
namespace Go.Proofs.YtefkifdhjabdiaaDoor
set_option maxHeartbeats 4000000
set_option linter.unusedVariables false
set_option linter.unusedSimpArgs false
set_option maxRecDepth 100000
noncomputable def oc101 : Orc where
 pure := fun f args => match f, args with
  | 21, [a0, a1, a2] => match dA tTrace a0, dA tI a1, dA tI a2 with
   | some x0, some x1, some x2 => some (.c (.int .i64 (kindF x0 x1 x2)))
   | _, _, _ => none
  | _, _ => none
 heap := fun _ _ _ => none
def whole_lv : LV := ⟨([]), []⟩
noncomputable def whole_T (t : ETrace) (n : Nat) (m : EVal → Option EVal) (v : Int) (a : Int) : Tree :=
 .call 21 [.agg (Ty.enc tTrace t), .c (.int .i64 v), .c (.int .i64 a)] false (.c (.int .i64 (kindF t v a))) <|
 .ret (.c (.bool (decide (kindF t v a = 2)))) [.cells 128 (Ty.enc tTrace t ++ [.map 1]), .map 164 tVal tVal n m]
theorem whole_T_ok (t : ETrace) (n : Nat) (m : EVal → Option EVal) (v : Int) (a : Int) : aRun Tryd.prog oc101 Tryd.f129 whole_lv 3000 [.code (bodyOf Tryd.f129)] ([.c (.ptr 0 0 0 0), .c (.int .i64 v), .c (.int .i64 a)] ++ List.replicate (Func.ntmps Tryd.f129 - 3) .junk) [.cells 128 (Ty.enc tTrace t ++ [.map 1]), .map 164 tVal tVal n m] = whole_T t n m v a := by kernel_rfl
theorem whole_fun (t : ETrace) (n : Nat) (m : EVal → Option EVal) (v : Int) (a : Int) : AFunH Tryd.prog 129 [.c (.ptr 0 0 0 0), .c (.int .i64 v), .c (.int .i64 a)] [.cells 128 (Ty.enc tTrace t ++ [.map 1]), .map 164 tVal tVal n m] (.c (.bool (decide (kindF t v a = 2)))) [.cells 128 (Ty.enc tTrace t ++ [.map 1]), .map 164 tVal tVal n m] (List.range 2) :=
 AFunH.ofL oc101 whole_lv 3000 Tryd.func129 mixed rfl (by decide) (Nat.le_of_ble_eq_true rfl) rfl rfl (Nat.le_of_ble_eq_true rfl) _ (whole_T_ok t n m v a) fun hF => by
  unfold whole_T
  refine g_call (kind_fun t v a) (fun h => nomatch h) ?_
  refine g_fin ?_
  exact g_end [0, 1] (show ∀ k, k < 2 → ([0, 1] : List Nat)[k]? = some k by decide) (by decide) (leAV.refl _) ⟨leB.refl _, leB.refl _, trivial⟩

noncomputable def oc102 : Orc where
 pure := fun f args => match f, args with
  | _, _ => none
 heap := fun f args H => match f, args with
  | 129, [.one (.c (.ptr b0 0 0 0)), a1, a2] => match cellsAs 128 H[b0]? with
   | some [c0_0_0, c0_0_1, c0_0_2, c0_0_3, c0_0_4, c0_0_5, c0_0_6, c0_0_7, c0_0_8, c0_0_9, c0_0_10, c0_0_11, c0_0_12, .map b1] => (match dA tI a1, dA tI a2, dCs tTrace [c0_0_0, c0_0_1, c0_0_2, c0_0_3, c0_0_4, c0_0_5, c0_0_6, c0_0_7, c0_0_8, c0_0_9, c0_0_10, c0_0_11, c0_0_12], mapAs 164 tVal tVal H[b1]? with
    | some x1, some x2, some y0_0, some (n1, y1) => hres [b0, b1] H (.c (.bool (decide (kindF y0_0 x1 x2 = 2)))) [.cells 128 [.int .i64 y0_0.1, .int .i64 y0_0.2.1, .int .i64 y0_0.2.2.1, .ro tIns y0_0.2.2.2.1, .ro tExit y0_0.2.2.2.2.1, .int .i64 y0_0.2.2.2.2.2.1.1, .int .i64 y0_0.2.2.2.2.2.1.2.1, .ro tVal y0_0.2.2.2.2.2.1.2.2.1, .ro tMake y0_0.2.2.2.2.2.1.2.2.2, .int .i64 y0_0.2.2.2.2.2.2.1, .int .i64 y0_0.2.2.2.2.2.2.2.1, .ro tVal y0_0.2.2.2.2.2.2.2.2.1, .ro tMake y0_0.2.2.2.2.2.2.2.2.2, .map 1], .map 164 tVal tVal n1 y1]
    | _, _, _, _ => none)
   | _ => none
  | _, _ => none
def ints_lv : LV := ⟨([]), []⟩
noncomputable def ints_T (t : ETrace) (n : Nat) (m : EVal → Option EVal) (i : Int) : Tree :=
 .need ((0 : Int) ≤ i ∧ (i : Int) < (t.2.2.2.1.length : Int)) <|
 .need ((Int.toNat i) < t.2.2.2.1.length) <|
 .callH 129 [.c (.ptr 0 0 0 0), .c (.int .i64 (xV t i).2.1), .c (.int .i64 i)] [.cells 128 (Ty.enc tTrace t ++ [.map 1]), .map 164 tVal tVal n m, .cells 46 (Ty.enc tIns (xV t i))] (.c (.bool (decide (kindF t (xV t i).2.1 i = 2)))) [.cells 128 (Ty.enc tTrace t ++ [.map 1]), .map 164 tVal tVal n m, .cells 46 (Ty.enc tIns (xV t i))] [0, 1] <|
 .ite (decide (kindF t (xV t i).2.1 i = 2))
 (.callH 129 [.c (.ptr 0 0 0 0), .c (.int .i64 (xV t i).2.2.1), .c (.int .i64 i)] [.cells 128 (Ty.enc tTrace t ++ [.map 1]), .map 164 tVal tVal n m, .cells 46 (Ty.enc tIns (xV t i))] (.c (.bool (decide (kindF t (xV t i).2.2.1 i = 2)))) [.cells 128 (Ty.enc tTrace t ++ [.map 1]), .map 164 tVal tVal n m, .cells 46 (Ty.enc tIns (xV t i))] [0, 1] <|
  .ret (.c (.bool (decide (kindF t (xV t i).2.2.1 i = 2)))) [.cells 128 (Ty.enc tTrace t ++ [.map 1]), .map 164 tVal tVal n m, .cells 46 (Ty.enc tIns (xV t i))])
 (.ret (.c (.lit false)) [.cells 128 (Ty.enc tTrace t ++ [.map 1]), .map 164 tVal tVal n m, .cells 46 (Ty.enc tIns (xV t i))])
theorem ints_T_ok (t : ETrace) (n : Nat) (m : EVal → Option EVal) (i : Int) : aRun Tryd.prog oc102 Tryd.f96 ints_lv 3000 [.code (bodyOf Tryd.f96)] ([.c (.ptr 0 0 0 0), .c (.int .i64 i)] ++ List.replicate (Func.ntmps Tryd.f96 - 2) .junk) [.cells 128 (Ty.enc tTrace t ++ [.map 1]), .map 164 tVal tVal n m] = ints_T t n m i := by kernel_rfl
theorem ints_fun (t : ETrace) (n : Nat) (m : EVal → Option EVal) (i : Int) (hi : 0 ≤ i ∧ i < (t.2.2.2.1.length : Int)) : AFunH Tryd.prog 96 [.c (.ptr 0 0 0 0), .c (.int .i64 i)] [.cells 128 (Ty.enc tTrace t ++ [.map 1]), .map 164 tVal tVal n m] (.c (.bool (intsF t i))) [.cells 128 (Ty.enc tTrace t ++ [.map 1]), .map 164 tVal tVal n m] (List.range 2) :=
 AFunH.ofL oc102 ints_lv 3000 Tryd.func96 mixed rfl (by decide) (Nat.le_of_ble_eq_true rfl) rfl rfl (Nat.le_of_ble_eq_true rfl) _ (ints_T_ok t n m i) fun hF => by
  unfold ints_T
  refine g_need (by omega) ?_
  refine g_need (by omega) ?_
  refine g_callH (AFunH.frameB [0, 1] (whole_fun t n m (xV t i).2.1 i) rfl rfl rfl rfl rfl rfl rfl) ?_
  refine g_iteD (fun h0 => ?_) (fun h0 => ?_)
  ·refine g_callH (AFunH.frameB [0, 1] (whole_fun t n m (xV t i).2.2.1 i) rfl rfl rfl rfl rfl rfl rfl) ?_
   unfold intsF insV; first | rw [if_pos h0] | rw [if_neg h0]
   refine g_fin ?_
   exact g_end [0, 1] (show ∀ k, k < 2 → ([0, 1] : List Nat)[k]? = some k by decide) (by decide) (rfl) ⟨leB.refl _, leB.refl _, trivial⟩
  ·unfold intsF insV; first | rw [if_pos h0] | rw [if_neg h0]
   refine g_fin ?_
   exact g_end [0, 1] (show ∀ k, k < 2 → ([0, 1] : List Nat)[k]? = some k by decide) (by decide) (rfl) ⟨leB.refl _, leB.refl _, trivial⟩

def minF (xs : List Int) : Int := minL (xs.getD 0 tI.dflt) (xs.drop 1)
def maxF (xs : List Int) : Int := maxL (xs.getD 0 tI.dflt) (xs.drop 1)
noncomputable def oc103min : Orc where
 pure := fun f args => match f, args with
  | _, _ => none
 heap := fun _ _ _ => none
def min_lv : LV := ⟨(true :: F2 (true :: true :: F16 (F4 ([])))), []⟩
noncomputable def min_T (xs : List Int) : Tree :=
 .ite (decide ((xs.length : Int) < 1))
 (.fail 92)
 (.need ((0 : Int) ≤ 0 ∧ (0 : Int) < (xs.length : Int)) <|
  .need (0 < xs.length) <|
  .stop (lp (bodyOf Tryd.f132) 0) (.c (.ro tI xs) :: J2 (.c (.int .i64 (xs.getD 0 tI.dflt)) :: .c (.int .i64 1) :: J16 (J4 ([])))) [])
theorem min_T_ok (xs : List Int) : aRun Tryd.prog oc103min Tryd.f132 min_lv 3000 [.code (bodyOf Tryd.f132)] ([.c (.ro tI xs)] ++ List.replicate (Func.ntmps Tryd.f132 - 1) .junk) [] = min_T xs := by kernel_rfl
noncomputable def min_l0_R (xs : List Int) (i : Nat) (a : Int) : Tree :=
 .ite (decide (((i : Nat) : Int) < (xs.length : Int)))
 (.need ((0 : Int) ≤ ((i : Nat) : Int) ∧ (((i : Nat) : Int) : Int) < (xs.length : Int)) <|
  .need (i < xs.length) <|
  .need (inR .i64 (xs.getD i tI.dflt)) <|
  .need (inR .i64 (((i : Nat) : Int) + 1)) <|
  .stop (lp (bodyOf Tryd.f132) 0) (.c (.ro tI xs) :: J2 (.c (.int .i64 (if (xs.getD i tI.dflt) < a then (xs.getD i tI.dflt) else a)) :: .c (.int .i64 (((i : Nat) : Int) + 1)) :: J16 (J4 ([])))) [])
 (.ret (.c (.int .i64 a)) [])
theorem min_l0_R_ok (xs : List Int) (i : Nat) (a : Int) : aRound Tryd.prog oc103min Tryd.f132 min_lv 3000 (lp (bodyOf Tryd.f132) 0) (.c (.ro tI xs) :: J2 (.c (.int .i64 a) :: .c (.int .i64 ((i : Nat) : Int)) :: J16 (J4 ([])))) [] = min_l0_R xs i a := by kernel_rfl
theorem min_l0 (xs : List Int) (i : Nat) (a : Int) (hl : Ty.ok (.slice tI) xs) : Run Tryd.prog 132 (retQ Tryd.prog (.c (.int .i64 (minL a (xs.drop i))))) (lp (bodyOf Tryd.f132) 0) (.c (.ro tI xs) :: J2 (.c (.int .i64 a) :: .c (.int .i64 ((i : Nat) : Int)) :: J16 (J4 ([])))) [] :=
 Run.roundA oc103min min_lv 3000 Tryd.func132 mixed (min_l0_R xs i a) (min_l0_R_ok xs i a) (by
  unfold min_l0_R
  refine g_iteD (fun h0 => ?_) (fun h0 => ?_)
  ·refine g_need (by omega) ?_
   refine g_need (by omega) ?_
   refine g_need (by first | omega | (have := hl.1; rw [i64_iff]; omega) | (exact hl.2 _ (getD_mem (α := Int) (Ty.dflt tI) (by omega)))) ?_
   refine g_need (by first | omega | (have := hl.1; rw [i64_iff]; omega) | (exact hl.2 _ (getD_mem (α := Int) (Ty.dflt tI) (by omega)))) ?_
   refine g_stop (RunN.keep [] (true :: F2 (true :: true :: F16 (F4 ([])))) n0 (by decide) rfl rfl ?_)
   have ht := min_l0 xs (i + 1) (if (xs.getD i tI.dflt) < a then (xs.getD i tI.dflt) else a) hl; rw [dropCons (α := Int) (Ty.dflt tI) (by omega : i < xs.length), minL]; exact ht
  ·refine g_rq ?_
   exact g_rl (⟨rfl, (show (a : Int) = minL a (xs.drop i) from by rw [List.drop_eq_nil_of_le (by omega)]; rfl)⟩) rfl
  )
 termination_by xs.length - i
 decreasing_by all_goals omega
theorem min_fun (xs : List Int) (hx : xs ≠ []) : AFun Tryd.prog 132 [.c (.ro tI xs)] (.c (.int .i64 (minF xs))) :=
 AFun.of oc103min min_lv 3000 Tryd.func132 mixed rfl (by decide) (Nat.le_of_ble_eq_true rfl) _ (min_T_ok xs) fun hF => by
  have hl := (hF.ro).1
  unfold min_T
  refine g_iteD (fun h0 => ?_) (fun h0 => ?_)
  ·exact (show False from by first | omega | (have := List.length_pos_iff.2 hx; omega))
  ·refine g_need (by omega) ?_
   refine g_need (by omega) ?_
   refine g_stop (RunN.keep [] (true :: F2 (true :: true :: F16 (F4 ([])))) n0 (by decide) rfl rfl ?_)
   exact min_l0 xs 1 (xs.getD 0 tI.dflt) hl

noncomputable def oc103max : Orc where
 pure := fun f args => match f, args with
  | _, _ => none
 heap := fun _ _ _ => none
def max_lv : LV := ⟨(true :: F2 (true :: true :: F16 (F4 ([])))), []⟩
noncomputable def max_T (xs : List Int) : Tree :=
 .ite (decide ((xs.length : Int) < 1))
 (.fail 92)
 (.need ((0 : Int) ≤ 0 ∧ (0 : Int) < (xs.length : Int)) <|
  .need (0 < xs.length) <|
  .stop (lp (bodyOf Tryd.f133) 0) (.c (.ro tI xs) :: J2 (.c (.int .i64 (xs.getD 0 tI.dflt)) :: .c (.int .i64 1) :: J16 (J4 ([])))) [])
theorem max_T_ok (xs : List Int) : aRun Tryd.prog oc103max Tryd.f133 max_lv 3000 [.code (bodyOf Tryd.f133)] ([.c (.ro tI xs)] ++ List.replicate (Func.ntmps Tryd.f133 - 1) .junk) [] = max_T xs := by kernel_rfl
noncomputable def max_l0_R (xs : List Int) (i : Nat) (a : Int) : Tree :=
 .ite (decide (((i : Nat) : Int) < (xs.length : Int)))
 (.need ((0 : Int) ≤ ((i : Nat) : Int) ∧ (((i : Nat) : Int) : Int) < (xs.length : Int)) <|
  .need (i < xs.length) <|
  .need (inR .i64 (xs.getD i tI.dflt)) <|
  .need (inR .i64 (((i : Nat) : Int) + 1)) <|
  .stop (lp (bodyOf Tryd.f133) 0) (.c (.ro tI xs) :: J2 (.c (.int .i64 (if (xs.getD i tI.dflt) > a then (xs.getD i tI.dflt) else a)) :: .c (.int .i64 (((i : Nat) : Int) + 1)) :: J16 (J4 ([])))) [])
 (.ret (.c (.int .i64 a)) [])
theorem max_l0_R_ok (xs : List Int) (i : Nat) (a : Int) : aRound Tryd.prog oc103max Tryd.f133 max_lv 3000 (lp (bodyOf Tryd.f133) 0) (.c (.ro tI xs) :: J2 (.c (.int .i64 a) :: .c (.int .i64 ((i : Nat) : Int)) :: J16 (J4 ([])))) [] = max_l0_R xs i a := by kernel_rfl
theorem max_l0 (xs : List Int) (i : Nat) (a : Int) (hl : Ty.ok (.slice tI) xs) : Run Tryd.prog 133 (retQ Tryd.prog (.c (.int .i64 (maxL a (xs.drop i))))) (lp (bodyOf Tryd.f133) 0) (.c (.ro tI xs) :: J2 (.c (.int .i64 a) :: .c (.int .i64 ((i : Nat) : Int)) :: J16 (J4 ([])))) [] :=
 Run.roundA oc103max max_lv 3000 Tryd.func133 mixed (max_l0_R xs i a) (max_l0_R_ok xs i a) (by
  unfold max_l0_R
  refine g_iteD (fun h0 => ?_) (fun h0 => ?_)
  ·refine g_need (by omega) ?_
   refine g_need (by omega) ?_
   refine g_need (by first | omega | (have := hl.1; rw [i64_iff]; omega) | (exact hl.2 _ (getD_mem (α := Int) (Ty.dflt tI) (by omega)))) ?_
   refine g_need (by first | omega | (have := hl.1; rw [i64_iff]; omega) | (exact hl.2 _ (getD_mem (α := Int) (Ty.dflt tI) (by omega)))) ?_
   refine g_stop (RunN.keep [] (true :: F2 (true :: true :: F16 (F4 ([])))) n0 (by decide) rfl rfl ?_)
   have ht := max_l0 xs (i + 1) (if (xs.getD i tI.dflt) > a then (xs.getD i tI.dflt) else a) hl; rw [dropCons (α := Int) (Ty.dflt tI) (by omega : i < xs.length), maxL]; exact ht
  ·refine g_rq ?_
   exact g_rl (⟨rfl, (show (a : Int) = maxL a (xs.drop i) from by rw [List.drop_eq_nil_of_le (by omega)]; rfl)⟩) rfl
  )
 termination_by xs.length - i
 decreasing_by all_goals omega
theorem max_fun (xs : List Int) (hx : xs ≠ []) : AFun Tryd.prog 133 [.c (.ro tI xs)] (.c (.int .i64 (maxF xs))) :=
 AFun.of oc103max max_lv 3000 Tryd.func133 mixed rfl (by decide) (Nat.le_of_ble_eq_true rfl) _ (max_T_ok xs) fun hF => by
  have hl := (hF.ro).1
  unfold max_T
  refine g_iteD (fun h0 => ?_) (fun h0 => ?_)
  ·exact (show False from by first | omega | (have := List.length_pos_iff.2 hx; omega))
  ·refine g_need (by omega) ?_
   refine g_need (by omega) ?_
   refine g_stop (RunN.keep [] (true :: F2 (true :: true :: F16 (F4 ([])))) n0 (by decide) rfl rfl ?_)
   exact max_l0 xs 1 (xs.getD 0 tI.dflt) hl

/-- What is known of spans below a place. -/
def SpanC (t : ETrace) (k : Nat) (bd : Int) : Prop := ∀ (v a : Int) (n : Nat) (m : EVal → Option EVal), 0 ≤ v → v < a → a < bd → KeptOk t (n, m) →
 AFunH Tryd.prog 62 [.c (.ptr 0 0 0 0), .c (.int .i64 v), .c (.int .i64 a)] [.cells 128 (Ty.enc tTrace t ++ [.map 1]), .map 164 tVal tVal n m] (.agg (Ty.enc tVal (spanM t k v a (n, m)).1)) [.cells 128 (Ty.enc tTrace t ++ [.map 1]), .map 164 tVal tVal (spanM t k v a (n, m)).2.1 (spanM t k v a (n, m)).2.2] (List.range 2)
theorem reckM_add {M : Type} {rec : Int → Int → M → EVal × M} {t : ETrace} {i : Int} {m : M} (h : (insV t i).2.2.2.2.1 = 3) : reckM rec t i m = ((((rec (insV t i).2.1 i m).1.1 + (rec (insV t i).2.2.1 i (rec (insV t i).2.1 i m).2).1.1, (rec (insV t i).2.1 i m).1.2 + (rec (insV t i).2.2.1 i (rec (insV t i).2.1 i m).2).1.2), true), (rec (insV t i).2.2.1 i (rec (insV t i).2.1 i m).2).2) := by unfold reckM recB; rw [if_pos h]
theorem reckM_sub {M : Type} {rec : Int → Int → M → EVal × M} {t : ETrace} {i : Int} {m : M} (h0 : ¬ (insV t i).2.2.2.2.1 = 3) (h : (insV t i).2.2.2.2.1 = 4) : reckM rec t i m = ((((rec (insV t i).2.1 i m).1.1 - (rec (insV t i).2.2.1 i (rec (insV t i).2.1 i m).2).1.2, (rec (insV t i).2.1 i m).1.2 - (rec (insV t i).2.2.1 i (rec (insV t i).2.1 i m).2).1.1), true), (rec (insV t i).2.2.1 i (rec (insV t i).2.1 i m).2).2) := by unfold reckM recB; rw [if_neg h0, if_pos h]
theorem reckM_mul {M : Type} {rec : Int → Int → M → EVal × M} {t : ETrace} {i : Int} {m : M} (h0 : ¬ (insV t i).2.2.2.2.1 = 3) (h1 : ¬ (insV t i).2.2.2.2.1 = 4) (h : (insV t i).2.2.2.2.1 = 5) {a b : EVal} (ha : (rec (insV t i).2.1 i m).1 = a) (hb : (rec (insV t i).2.2.1 i (rec (insV t i).2.1 i m).2).1 = b) : reckM rec t i m = (((minF [a.1 * b.1, a.1 * b.2, a.2 * b.1, a.2 * b.2], maxF [a.1 * b.1, a.1 * b.2, a.2 * b.1, a.2 * b.2]), true), (rec (insV t i).2.2.1 i (rec (insV t i).2.1 i m).2).2) := by unfold reckM recB; rw [if_neg h0, if_neg h1, if_pos h, ha, hb]; rfl
theorem reckM_no {M : Type} {rec : Int → Int → M → EVal × M} {t : ETrace} {i : Int} {m : M} (h0 : ¬ (insV t i).2.2.2.2.1 = 3) (h1 : ¬ (insV t i).2.2.2.2.1 = 4) (h2 : ¬ (insV t i).2.2.2.2.1 = 5) : reckM rec t i m = (((0, 0), false), (rec (insV t i).2.2.1 i (rec (insV t i).2.1 i m).2).2) := by unfold reckM recB; rw [if_neg h0, if_neg h1, if_neg h2]
noncomputable def oc104 (k : Nat) : Orc where
 pure := fun f args => match f, args with
  | 132, [a0] => match dA (.slice tI) a0 with
   | some x0 => some (.c (.int .i64 (minF x0)))
   | _ => none
  | 133, [a0] => match dA (.slice tI) a0 with
   | some x0 => some (.c (.int .i64 (maxF x0)))
   | _ => none
  | _, _ => none
 heap := fun f args H => match f, args with
  | 62, [.one (.c (.ptr b0 0 0 0)), a1, a2] => match cellsAs 128 H[b0]? with
   | some [c0_0_0, c0_0_1, c0_0_2, c0_0_3, c0_0_4, c0_0_5, c0_0_6, c0_0_7, c0_0_8, c0_0_9, c0_0_10, c0_0_11, c0_0_12, .map b1] => (match dA tI a1, dA tI a2, dCs tTrace [c0_0_0, c0_0_1, c0_0_2, c0_0_3, c0_0_4, c0_0_5, c0_0_6, c0_0_7, c0_0_8, c0_0_9, c0_0_10, c0_0_11, c0_0_12], mapAs 164 tVal tVal H[b1]? with
    | some x1, some x2, some y0_0, some (n1, y1) => hres [b0, b1] H (.agg (Ty.enc tVal ((spanM y0_0 k x1 x2 (n1, y1)).1))) [.cells 128 [.int .i64 y0_0.1, .int .i64 y0_0.2.1, .int .i64 y0_0.2.2.1, .ro tIns y0_0.2.2.2.1, .ro tExit y0_0.2.2.2.2.1, .int .i64 y0_0.2.2.2.2.2.1.1, .int .i64 y0_0.2.2.2.2.2.1.2.1, .ro tVal y0_0.2.2.2.2.2.1.2.2.1, .ro tMake y0_0.2.2.2.2.2.1.2.2.2, .int .i64 y0_0.2.2.2.2.2.2.1, .int .i64 y0_0.2.2.2.2.2.2.2.1, .ro tVal y0_0.2.2.2.2.2.2.2.2.1, .ro tMake y0_0.2.2.2.2.2.2.2.2.2, .map 1], .map 164 tVal tVal (spanM y0_0 k x1 x2 (n1, y1)).2.1 (spanM y0_0 k x1 x2 (n1, y1)).2.2]
    | _, _, _, _ => none)
   | _ => none
  | _, _ => none
def reck_lv : LV := ⟨([]), []⟩
noncomputable def reck_T (t : ETrace) (n : Nat) (m : EVal → Option EVal) (i : Int) (k : Nat) : Tree :=
 .need ((0 : Int) ≤ i ∧ (i : Int) < (t.2.2.2.1.length : Int)) <|
 .need ((Int.toNat i) < t.2.2.2.1.length) <|
 .callH 62 [.c (.ptr 0 0 0 0), .c (.int .i64 (xV t i).2.1), .c (.int .i64 i)] [.cells 128 (Ty.enc tTrace t ++ [.map 1]), .map 164 tVal tVal n m, .cells 130 [.int .i64 0, .int .i64 0], .cells 46 (Ty.enc tIns (xV t i))] (.agg [.int .i64 (spanM t k (xV t i).2.1 i (n, m)).1.1, .int .i64 (spanM t k (xV t i).2.1 i (n, m)).1.2]) [.cells 128 (Ty.enc tTrace t ++ [.map 1]), .map 164 tVal tVal (spanM t k (xV t i).2.1 i (n, m)).2.1 (spanM t k (xV t i).2.1 i (n, m)).2.2, .cells 130 [.int .i64 0, .int .i64 0], .cells 46 (Ty.enc tIns (xV t i))] [0, 1] <|
 .callH 62 [.c (.ptr 0 0 0 0), .c (.int .i64 (xV t i).2.2.1), .c (.int .i64 i)] [.cells 128 (Ty.enc tTrace t ++ [.map 1]), .map 164 tVal tVal (spanM t k (xV t i).2.1 i (n, m)).2.1 (spanM t k (xV t i).2.1 i (n, m)).2.2, .cells 130 [.int .i64 0, .int .i64 0], .cells 46 (Ty.enc tIns (xV t i))] (.agg [.int .i64 (spanM t k (xV t i).2.2.1 i (spanM t k (xV t i).2.1 i (n, m)).2).1.1, .int .i64 (spanM t k (xV t i).2.2.1 i (spanM t k (xV t i).2.1 i (n, m)).2).1.2]) [.cells 128 (Ty.enc tTrace t ++ [.map 1]), .map 164 tVal tVal (spanM t k (xV t i).2.2.1 i (spanM t k (xV t i).2.1 i (n, m)).2).2.1 (spanM t k (xV t i).2.2.1 i (spanM t k (xV t i).2.1 i (n, m)).2).2.2, .cells 130 [.int .i64 0, .int .i64 0], .cells 46 (Ty.enc tIns (xV t i))] [0, 1] <|
 .ite (decide ((xV t i).2.2.2.2.1 = 3))
 (.need (inR .i64 ((spanM t k (xV t i).2.1 i (n, m)).1.1 + (spanM t k (xV t i).2.2.1 i (spanM t k (xV t i).2.1 i (n, m)).2).1.1)) <|
  .need (inR .i64 ((spanM t k (xV t i).2.1 i (n, m)).1.2 + (spanM t k (xV t i).2.2.1 i (spanM t k (xV t i).2.1 i (n, m)).2).1.2)) <|
  .ret (.tup [.agg [.int .i64 ((spanM t k (xV t i).2.1 i (n, m)).1.1 + (spanM t k (xV t i).2.2.1 i (spanM t k (xV t i).2.1 i (n, m)).2).1.1), .int .i64 ((spanM t k (xV t i).2.1 i (n, m)).1.2 + (spanM t k (xV t i).2.2.1 i (spanM t k (xV t i).2.1 i (n, m)).2).1.2)], .c (.lit true)]) [.cells 128 (Ty.enc tTrace t ++ [.map 1]), .map 164 tVal tVal (spanM t k (xV t i).2.2.1 i (spanM t k (xV t i).2.1 i (n, m)).2).2.1 (spanM t k (xV t i).2.2.1 i (spanM t k (xV t i).2.1 i (n, m)).2).2.2, .cells 130 [.int .i64 ((spanM t k (xV t i).2.1 i (n, m)).1.1 + (spanM t k (xV t i).2.2.1 i (spanM t k (xV t i).2.1 i (n, m)).2).1.1), .int .i64 ((spanM t k (xV t i).2.1 i (n, m)).1.2 + (spanM t k (xV t i).2.2.1 i (spanM t k (xV t i).2.1 i (n, m)).2).1.2)], .cells 46 (Ty.enc tIns (xV t i)), .cells 130 [.int .i64 (spanM t k (xV t i).2.1 i (n, m)).1.1, .int .i64 (spanM t k (xV t i).2.1 i (n, m)).1.2], .cells 130 [.int .i64 (spanM t k (xV t i).2.2.1 i (spanM t k (xV t i).2.1 i (n, m)).2).1.1, .int .i64 (spanM t k (xV t i).2.2.1 i (spanM t k (xV t i).2.1 i (n, m)).2).1.2]])
 (.ite (decide ((xV t i).2.2.2.2.1 = 4))
  (.need (inR .i64 ((spanM t k (xV t i).2.1 i (n, m)).1.1 - (spanM t k (xV t i).2.2.1 i (spanM t k (xV t i).2.1 i (n, m)).2).1.2)) <|
  .need (inR .i64 ((spanM t k (xV t i).2.1 i (n, m)).1.2 - (spanM t k (xV t i).2.2.1 i (spanM t k (xV t i).2.1 i (n, m)).2).1.1)) <|
  .ret (.tup [.agg [.int .i64 ((spanM t k (xV t i).2.1 i (n, m)).1.1 - (spanM t k (xV t i).2.2.1 i (spanM t k (xV t i).2.1 i (n, m)).2).1.2), .int .i64 ((spanM t k (xV t i).2.1 i (n, m)).1.2 - (spanM t k (xV t i).2.2.1 i (spanM t k (xV t i).2.1 i (n, m)).2).1.1)], .c (.lit true)]) [.cells 128 (Ty.enc tTrace t ++ [.map 1]), .map 164 tVal tVal (spanM t k (xV t i).2.2.1 i (spanM t k (xV t i).2.1 i (n, m)).2).2.1 (spanM t k (xV t i).2.2.1 i (spanM t k (xV t i).2.1 i (n, m)).2).2.2, .cells 130 [.int .i64 ((spanM t k (xV t i).2.1 i (n, m)).1.1 - (spanM t k (xV t i).2.2.1 i (spanM t k (xV t i).2.1 i (n, m)).2).1.2), .int .i64 ((spanM t k (xV t i).2.1 i (n, m)).1.2 - (spanM t k (xV t i).2.2.1 i (spanM t k (xV t i).2.1 i (n, m)).2).1.1)], .cells 46 (Ty.enc tIns (xV t i)), .cells 130 [.int .i64 (spanM t k (xV t i).2.1 i (n, m)).1.1, .int .i64 (spanM t k (xV t i).2.1 i (n, m)).1.2], .cells 130 [.int .i64 (spanM t k (xV t i).2.2.1 i (spanM t k (xV t i).2.1 i (n, m)).2).1.1, .int .i64 (spanM t k (xV t i).2.2.1 i (spanM t k (xV t i).2.1 i (n, m)).2).1.2]])
  (.ite (decide ((xV t i).2.2.2.2.1 = 5))
  (.need (inR .i64 ((spanM t k (xV t i).2.1 i (n, m)).1.1 * (spanM t k (xV t i).2.2.1 i (spanM t k (xV t i).2.1 i (n, m)).2).1.1)) <|
   .need (inR .i64 ((spanM t k (xV t i).2.1 i (n, m)).1.1 * (spanM t k (xV t i).2.2.1 i (spanM t k (xV t i).2.1 i (n, m)).2).1.2)) <|
   .need (inR .i64 ((spanM t k (xV t i).2.1 i (n, m)).1.2 * (spanM t k (xV t i).2.2.1 i (spanM t k (xV t i).2.1 i (n, m)).2).1.1)) <|
   .need (inR .i64 ((spanM t k (xV t i).2.1 i (n, m)).1.2 * (spanM t k (xV t i).2.2.1 i (spanM t k (xV t i).2.1 i (n, m)).2).1.2)) <|
   .need (0 = 0 ∧ 4 = ([((spanM t k (xV t i).2.1 i (n, m)).1.1 * (spanM t k (xV t i).2.2.1 i (spanM t k (xV t i).2.1 i (n, m)).2).1.1), ((spanM t k (xV t i).2.1 i (n, m)).1.1 * (spanM t k (xV t i).2.2.1 i (spanM t k (xV t i).2.1 i (n, m)).2).1.2), ((spanM t k (xV t i).2.1 i (n, m)).1.2 * (spanM t k (xV t i).2.2.1 i (spanM t k (xV t i).2.1 i (n, m)).2).1.1), ((spanM t k (xV t i).2.1 i (n, m)).1.2 * (spanM t k (xV t i).2.2.1 i (spanM t k (xV t i).2.1 i (n, m)).2).1.2)]).length) <|
   .call 132 [.c (.ro tI ([((spanM t k (xV t i).2.1 i (n, m)).1.1 * (spanM t k (xV t i).2.2.1 i (spanM t k (xV t i).2.1 i (n, m)).2).1.1), ((spanM t k (xV t i).2.1 i (n, m)).1.1 * (spanM t k (xV t i).2.2.1 i (spanM t k (xV t i).2.1 i (n, m)).2).1.2), ((spanM t k (xV t i).2.1 i (n, m)).1.2 * (spanM t k (xV t i).2.2.1 i (spanM t k (xV t i).2.1 i (n, m)).2).1.1), ((spanM t k (xV t i).2.1 i (n, m)).1.2 * (spanM t k (xV t i).2.2.1 i (spanM t k (xV t i).2.1 i (n, m)).2).1.2)]))] true (.c (.int .i64 (minF ([((spanM t k (xV t i).2.1 i (n, m)).1.1 * (spanM t k (xV t i).2.2.1 i (spanM t k (xV t i).2.1 i (n, m)).2).1.1), ((spanM t k (xV t i).2.1 i (n, m)).1.1 * (spanM t k (xV t i).2.2.1 i (spanM t k (xV t i).2.1 i (n, m)).2).1.2), ((spanM t k (xV t i).2.1 i (n, m)).1.2 * (spanM t k (xV t i).2.2.1 i (spanM t k (xV t i).2.1 i (n, m)).2).1.1), ((spanM t k (xV t i).2.1 i (n, m)).1.2 * (spanM t k (xV t i).2.2.1 i (spanM t k (xV t i).2.1 i (n, m)).2).1.2)])))) <|
   .need (0 = 0 ∧ 4 = ([((spanM t k (xV t i).2.1 i (n, m)).1.1 * (spanM t k (xV t i).2.2.1 i (spanM t k (xV t i).2.1 i (n, m)).2).1.1), ((spanM t k (xV t i).2.1 i (n, m)).1.1 * (spanM t k (xV t i).2.2.1 i (spanM t k (xV t i).2.1 i (n, m)).2).1.2), ((spanM t k (xV t i).2.1 i (n, m)).1.2 * (spanM t k (xV t i).2.2.1 i (spanM t k (xV t i).2.1 i (n, m)).2).1.1), ((spanM t k (xV t i).2.1 i (n, m)).1.2 * (spanM t k (xV t i).2.2.1 i (spanM t k (xV t i).2.1 i (n, m)).2).1.2)]).length) <|
   .call 133 [.c (.ro tI ([((spanM t k (xV t i).2.1 i (n, m)).1.1 * (spanM t k (xV t i).2.2.1 i (spanM t k (xV t i).2.1 i (n, m)).2).1.1), ((spanM t k (xV t i).2.1 i (n, m)).1.1 * (spanM t k (xV t i).2.2.1 i (spanM t k (xV t i).2.1 i (n, m)).2).1.2), ((spanM t k (xV t i).2.1 i (n, m)).1.2 * (spanM t k (xV t i).2.2.1 i (spanM t k (xV t i).2.1 i (n, m)).2).1.1), ((spanM t k (xV t i).2.1 i (n, m)).1.2 * (spanM t k (xV t i).2.2.1 i (spanM t k (xV t i).2.1 i (n, m)).2).1.2)]))] true (.c (.int .i64 (maxF ([((spanM t k (xV t i).2.1 i (n, m)).1.1 * (spanM t k (xV t i).2.2.1 i (spanM t k (xV t i).2.1 i (n, m)).2).1.1), ((spanM t k (xV t i).2.1 i (n, m)).1.1 * (spanM t k (xV t i).2.2.1 i (spanM t k (xV t i).2.1 i (n, m)).2).1.2), ((spanM t k (xV t i).2.1 i (n, m)).1.2 * (spanM t k (xV t i).2.2.1 i (spanM t k (xV t i).2.1 i (n, m)).2).1.1), ((spanM t k (xV t i).2.1 i (n, m)).1.2 * (spanM t k (xV t i).2.2.1 i (spanM t k (xV t i).2.1 i (n, m)).2).1.2)])))) <|
   .ret (.tup [.agg [.int .i64 (minF ([((spanM t k (xV t i).2.1 i (n, m)).1.1 * (spanM t k (xV t i).2.2.1 i (spanM t k (xV t i).2.1 i (n, m)).2).1.1), ((spanM t k (xV t i).2.1 i (n, m)).1.1 * (spanM t k (xV t i).2.2.1 i (spanM t k (xV t i).2.1 i (n, m)).2).1.2), ((spanM t k (xV t i).2.1 i (n, m)).1.2 * (spanM t k (xV t i).2.2.1 i (spanM t k (xV t i).2.1 i (n, m)).2).1.1), ((spanM t k (xV t i).2.1 i (n, m)).1.2 * (spanM t k (xV t i).2.2.1 i (spanM t k (xV t i).2.1 i (n, m)).2).1.2)])), .int .i64 (maxF ([((spanM t k (xV t i).2.1 i (n, m)).1.1 * (spanM t k (xV t i).2.2.1 i (spanM t k (xV t i).2.1 i (n, m)).2).1.1), ((spanM t k (xV t i).2.1 i (n, m)).1.1 * (spanM t k (xV t i).2.2.1 i (spanM t k (xV t i).2.1 i (n, m)).2).1.2), ((spanM t k (xV t i).2.1 i (n, m)).1.2 * (spanM t k (xV t i).2.2.1 i (spanM t k (xV t i).2.1 i (n, m)).2).1.1), ((spanM t k (xV t i).2.1 i (n, m)).1.2 * (spanM t k (xV t i).2.2.1 i (spanM t k (xV t i).2.1 i (n, m)).2).1.2)]))], .c (.lit true)]) [.cells 128 (Ty.enc tTrace t ++ [.map 1]), .map 164 tVal tVal (spanM t k (xV t i).2.2.1 i (spanM t k (xV t i).2.1 i (n, m)).2).2.1 (spanM t k (xV t i).2.2.1 i (spanM t k (xV t i).2.1 i (n, m)).2).2.2, .cells 130 [.int .i64 (minF ([((spanM t k (xV t i).2.1 i (n, m)).1.1 * (spanM t k (xV t i).2.2.1 i (spanM t k (xV t i).2.1 i (n, m)).2).1.1), ((spanM t k (xV t i).2.1 i (n, m)).1.1 * (spanM t k (xV t i).2.2.1 i (spanM t k (xV t i).2.1 i (n, m)).2).1.2), ((spanM t k (xV t i).2.1 i (n, m)).1.2 * (spanM t k (xV t i).2.2.1 i (spanM t k (xV t i).2.1 i (n, m)).2).1.1), ((spanM t k (xV t i).2.1 i (n, m)).1.2 * (spanM t k (xV t i).2.2.1 i (spanM t k (xV t i).2.1 i (n, m)).2).1.2)])), .int .i64 (maxF ([((spanM t k (xV t i).2.1 i (n, m)).1.1 * (spanM t k (xV t i).2.2.1 i (spanM t k (xV t i).2.1 i (n, m)).2).1.1), ((spanM t k (xV t i).2.1 i (n, m)).1.1 * (spanM t k (xV t i).2.2.1 i (spanM t k (xV t i).2.1 i (n, m)).2).1.2), ((spanM t k (xV t i).2.1 i (n, m)).1.2 * (spanM t k (xV t i).2.2.1 i (spanM t k (xV t i).2.1 i (n, m)).2).1.1), ((spanM t k (xV t i).2.1 i (n, m)).1.2 * (spanM t k (xV t i).2.2.1 i (spanM t k (xV t i).2.1 i (n, m)).2).1.2)]))], .cells 46 (Ty.enc tIns (xV t i)), .cells 130 [.int .i64 (spanM t k (xV t i).2.1 i (n, m)).1.1, .int .i64 (spanM t k (xV t i).2.1 i (n, m)).1.2], .cells 130 [.int .i64 (spanM t k (xV t i).2.2.1 i (spanM t k (xV t i).2.1 i (n, m)).2).1.1, .int .i64 (spanM t k (xV t i).2.2.1 i (spanM t k (xV t i).2.1 i (n, m)).2).1.2], .vec 3 tI ([((spanM t k (xV t i).2.1 i (n, m)).1.1 * (spanM t k (xV t i).2.2.1 i (spanM t k (xV t i).2.1 i (n, m)).2).1.1), ((spanM t k (xV t i).2.1 i (n, m)).1.1 * (spanM t k (xV t i).2.2.1 i (spanM t k (xV t i).2.1 i (n, m)).2).1.2), ((spanM t k (xV t i).2.1 i (n, m)).1.2 * (spanM t k (xV t i).2.2.1 i (spanM t k (xV t i).2.1 i (n, m)).2).1.1), ((spanM t k (xV t i).2.1 i (n, m)).1.2 * (spanM t k (xV t i).2.2.1 i (spanM t k (xV t i).2.1 i (n, m)).2).1.2)])])
  (.ret (.tup [.agg [.int .i64 0, .int .i64 0], .c (.lit false)]) [.cells 128 (Ty.enc tTrace t ++ [.map 1]), .map 164 tVal tVal (spanM t k (xV t i).2.2.1 i (spanM t k (xV t i).2.1 i (n, m)).2).2.1 (spanM t k (xV t i).2.2.1 i (spanM t k (xV t i).2.1 i (n, m)).2).2.2, .cells 130 [.int .i64 0, .int .i64 0], .cells 46 (Ty.enc tIns (xV t i)), .cells 130 [.int .i64 (spanM t k (xV t i).2.1 i (n, m)).1.1, .int .i64 (spanM t k (xV t i).2.1 i (n, m)).1.2], .cells 130 [.int .i64 (spanM t k (xV t i).2.2.1 i (spanM t k (xV t i).2.1 i (n, m)).2).1.1, .int .i64 (spanM t k (xV t i).2.2.1 i (spanM t k (xV t i).2.1 i (n, m)).2).1.2]])))
theorem reck_T_ok (t : ETrace) (n : Nat) (m : EVal → Option EVal) (i : Int) (k : Nat) : aRun Tryd.prog (oc104 k) Tryd.f101 reck_lv 3000 [.code (bodyOf Tryd.f101)] ([.c (.ptr 0 0 0 0), .c (.int .i64 i)] ++ List.replicate (Func.ntmps Tryd.f101 - 2) .junk) [.cells 128 (Ty.enc tTrace t ++ [.map 1]), .map 164 tVal tVal n m] = reck_T t n m i k := by kernel_rfl
theorem reck_fun (t : ETrace) (n : Nat) (m : EVal → Option EVal) (i : Int) (k : Nat) (bd : Int) (hd : DomC t) (hr : SpanC t k bd) (hk : bd.toNat ≤ k) (hbl : bd ≤ (t.2.2.2.1.length : Int)) (hm : KeptOk t (n, m)) (hi : 0 ≤ i ∧ i < bd) (ho : (xV t i).1 = 7) : AFunH Tryd.prog 101 [.c (.ptr 0 0 0 0), .c (.int .i64 i)] [.cells 128 (Ty.enc tTrace t ++ [.map 1]), .map 164 tVal tVal n m] (.tup [.agg (Ty.enc tVal ((reckM (spanM t k) t i (n, m)).1.1)), .c (.bool ((reckM (spanM t k) t i (n, m)).1.2))]) [.cells 128 (Ty.enc tTrace t ++ [.map 1]), .map 164 tVal tVal (reckM (spanM t k) t i (n, m)).2.1 (reckM (spanM t k) t i (n, m)).2.2] (List.range 2) :=
 AFunH.ofL (oc104 k) reck_lv 3000 Tryd.func101 mixed rfl (by decide) (Nat.le_of_ble_eq_true rfl) rfl rfl (Nat.le_of_ble_eq_true rfl) _ (reck_T_ok t n m i k) fun hF => by
  obtain ⟨a0, a1, b0, b1⟩ : 0 ≤ (xV t i).2.1 ∧ (xV t i).2.1 < i ∧ 0 ≤ (xV t i).2.2.1 ∧ (xV t i).2.2.1 < i := hd.bin i (by omega) (by omega) ho
  obtain ⟨eA, kA, _⟩ := spanM_ok hd.toDomT k (xV t i).2.1 i (n, m) (by omega) a0 a1 (by omega) hm
  have iA : InB (spanM t k (xV t i).2.1 i (n, m)).1 := by rw [eA]; exact spanF_in hd a0 a1 (by omega)
  obtain ⟨eB, kB, _⟩ := spanM_ok hd.toDomT k (xV t i).2.2.1 i (spanM t k (xV t i).2.1 i (n, m)).2 (by omega) b0 b1 (by omega) kA
  have iB : InB (spanM t k (xV t i).2.2.1 i (spanM t k (xV t i).2.1 i (n, m)).2).1 := by rw [eB]; exact spanF_in hd b0 b1 (by omega)
  unfold InB at iA iB
  have p1 := mul_in (a := (spanM t k (xV t i).2.1 i (n, m)).1.1) (b := (spanM t k (xV t i).2.2.1 i (spanM t k (xV t i).2.1 i (n, m)).2).1.1) (by omega) (by omega)
  have p2 := mul_in (a := (spanM t k (xV t i).2.1 i (n, m)).1.1) (b := (spanM t k (xV t i).2.2.1 i (spanM t k (xV t i).2.1 i (n, m)).2).1.2) (by omega) (by omega)
  have p3 := mul_in (a := (spanM t k (xV t i).2.1 i (n, m)).1.2) (b := (spanM t k (xV t i).2.2.1 i (spanM t k (xV t i).2.1 i (n, m)).2).1.1) (by omega) (by omega)
  have p4 := mul_in (a := (spanM t k (xV t i).2.1 i (n, m)).1.2) (b := (spanM t k (xV t i).2.2.1 i (spanM t k (xV t i).2.1 i (n, m)).2).1.2) (by omega) (by omega)
  unfold reck_T
  refine g_need (by omega) ?_
  refine g_need (by omega) ?_
  refine g_callH (AFunH.frameB [0, 1] (hr (xV t i).2.1 i n m (by omega) (by omega) (by omega) (by first | exact hm | exact kA | exact kB | exact kC | exact kD)) rfl rfl rfl rfl rfl rfl rfl) ?_
  refine g_callH (AFunH.frameB [0, 1] (hr (xV t i).2.2.1 i (spanM t k (xV t i).2.1 i (n, m)).2.1 (spanM t k (xV t i).2.1 i (n, m)).2.2 (by omega) (by omega) (by omega) (by first | exact hm | exact kA | exact kB | exact kC | exact kD)) rfl rfl rfl rfl rfl rfl rfl) ?_
  refine g_iteD (fun h0 => ?_) (fun h0 => ?_)
  ·refine g_need (by first | (rw [i64_iff]; omega) | omega | (constructor <;> omega) | (rw [i64_iff]; omega) | (rw [i64_iff]; constructor <;> omega) | rfl | (simp; done)) ?_
   refine g_need (by first | (rw [i64_iff]; omega) | omega | (constructor <;> omega) | (rw [i64_iff]; omega) | (rw [i64_iff]; constructor <;> omega) | rfl | (simp; done)) ?_
   first | rw [reckM_add (t := t) (i := i) h0] | rw [reckM_sub (t := t) (i := i) h0 h1] | rw [reckM_mul (t := t) (i := i) h0 h1 h2 rfl rfl] | rw [reckM_no (t := t) (i := i) h0 h1 h2]
   refine g_fin ?_
   exact g_end [0, 1] (show ∀ k, k < 2 → ([0, 1] : List Nat)[k]? = some k by decide) (by decide) (⟨⟨⟨rfl, rfl⟩, ⟨rfl, rfl⟩, trivial⟩, rfl, trivial⟩) ⟨leB.refl _, rfl, trivial⟩
  ·refine g_iteD (fun h1 => ?_) (fun h1 => ?_)
   ·refine g_need (by first | (rw [i64_iff]; omega) | omega | (constructor <;> omega) | (rw [i64_iff]; omega) | (rw [i64_iff]; constructor <;> omega) | rfl | (simp; done)) ?_
    refine g_need (by first | (rw [i64_iff]; omega) | omega | (constructor <;> omega) | (rw [i64_iff]; omega) | (rw [i64_iff]; constructor <;> omega) | rfl | (simp; done)) ?_
    first | rw [reckM_add (t := t) (i := i) h0] | rw [reckM_sub (t := t) (i := i) h0 h1] | rw [reckM_mul (t := t) (i := i) h0 h1 h2 rfl rfl] | rw [reckM_no (t := t) (i := i) h0 h1 h2]
    refine g_fin ?_
    exact g_end [0, 1] (show ∀ k, k < 2 → ([0, 1] : List Nat)[k]? = some k by decide) (by decide) (⟨⟨⟨rfl, rfl⟩, ⟨rfl, rfl⟩, trivial⟩, rfl, trivial⟩) ⟨leB.refl _, rfl, trivial⟩
   ·refine g_iteD (fun h2 => ?_) (fun h2 => ?_)
    ·refine g_need (by first | (rw [i64_iff]; omega) | omega | (constructor <;> omega) | (rw [i64_iff]; omega) | (rw [i64_iff]; constructor <;> omega) | rfl | (simp; done)) ?_
     refine g_need (by first | (rw [i64_iff]; omega) | omega | (constructor <;> omega) | (rw [i64_iff]; omega) | (rw [i64_iff]; constructor <;> omega) | rfl | (simp; done)) ?_
     refine g_need (by first | (rw [i64_iff]; omega) | omega | (constructor <;> omega) | (rw [i64_iff]; omega) | (rw [i64_iff]; constructor <;> omega) | rfl | (simp; done)) ?_
     refine g_need (by first | (rw [i64_iff]; omega) | omega | (constructor <;> omega) | (rw [i64_iff]; omega) | (rw [i64_iff]; constructor <;> omega) | rfl | (simp; done)) ?_
     refine g_need (by first | (rw [i64_iff]; omega) | omega | (constructor <;> omega) | (rw [i64_iff]; omega) | (rw [i64_iff]; constructor <;> omega) | rfl | (simp; done)) ?_
     refine g_call (min_fun ([((spanM t k (xV t i).2.1 i (n, m)).1.1 * (spanM t k (xV t i).2.2.1 i (spanM t k (xV t i).2.1 i (n, m)).2).1.1), ((spanM t k (xV t i).2.1 i (n, m)).1.1 * (spanM t k (xV t i).2.2.1 i (spanM t k (xV t i).2.1 i (n, m)).2).1.2), ((spanM t k (xV t i).2.1 i (n, m)).1.2 * (spanM t k (xV t i).2.2.1 i (spanM t k (xV t i).2.1 i (n, m)).2).1.1), ((spanM t k (xV t i).2.1 i (n, m)).1.2 * (spanM t k (xV t i).2.2.1 i (spanM t k (xV t i).2.1 i (n, m)).2).1.2)]) (by simp)) (fun _ => rfl) ?_
     refine g_need (by first | (rw [i64_iff]; omega) | omega | (constructor <;> omega) | (rw [i64_iff]; omega) | (rw [i64_iff]; constructor <;> omega) | rfl | (simp; done)) ?_
     refine g_call (max_fun ([((spanM t k (xV t i).2.1 i (n, m)).1.1 * (spanM t k (xV t i).2.2.1 i (spanM t k (xV t i).2.1 i (n, m)).2).1.1), ((spanM t k (xV t i).2.1 i (n, m)).1.1 * (spanM t k (xV t i).2.2.1 i (spanM t k (xV t i).2.1 i (n, m)).2).1.2), ((spanM t k (xV t i).2.1 i (n, m)).1.2 * (spanM t k (xV t i).2.2.1 i (spanM t k (xV t i).2.1 i (n, m)).2).1.1), ((spanM t k (xV t i).2.1 i (n, m)).1.2 * (spanM t k (xV t i).2.2.1 i (spanM t k (xV t i).2.1 i (n, m)).2).1.2)]) (by simp)) (fun _ => rfl) ?_
     first | rw [reckM_add (t := t) (i := i) h0] | rw [reckM_sub (t := t) (i := i) h0 h1] | rw [reckM_mul (t := t) (i := i) h0 h1 h2 rfl rfl] | rw [reckM_no (t := t) (i := i) h0 h1 h2]
     refine g_fin ?_
     exact g_end [0, 1] (show ∀ k, k < 2 → ([0, 1] : List Nat)[k]? = some k by decide) (by decide) (⟨⟨⟨rfl, rfl⟩, ⟨rfl, rfl⟩, trivial⟩, rfl, trivial⟩) ⟨leB.refl _, rfl, trivial⟩
    ·first | rw [reckM_add (t := t) (i := i) h0] | rw [reckM_sub (t := t) (i := i) h0 h1] | rw [reckM_mul (t := t) (i := i) h0 h1 h2 rfl rfl] | rw [reckM_no (t := t) (i := i) h0 h1 h2]
     refine g_fin ?_
     exact g_end [0, 1] (show ∀ k, k < 2 → ([0, 1] : List Nat)[k]? = some k by decide) (by decide) (⟨⟨⟨rfl, rfl⟩, ⟨rfl, rfl⟩, trivial⟩, rfl, trivial⟩) ⟨leB.refl _, rfl, trivial⟩

section
variable {M : Type} {rec : Int → Int → M → EVal × M} {s : EVal} {v a b d i : Int} {m : M}
theorem narLo_1 (h0 : v = b) (h1 : max2 s.1 ((rec a i m).1.1 + d) ≤ s.2) : narLo rec s v a b d i m = ((max2 s.1 ((rec a i m).1.1 + d), s.2), (rec a i m).2) := by rw [narLo, if_pos h0, loB, if_pos h1]
theorem narLo_2 (h0 : v = b) (h1 : ¬ max2 s.1 ((rec a i m).1.1 + d) ≤ s.2) : narLo rec s v a b d i m = (s, (rec a i m).2) := by rw [narLo, if_pos h0, loB, if_neg h1]
theorem narLo_3 (h0 : ¬ v = b) : narLo rec s v a b d i m = (s, m) := if_neg h0
theorem narHi_1 (h0 : v = a) (h1 : s.1 ≤ min2 s.2 ((rec b i m).1.2 - d)) : narHi rec s v a b d i m = ((s.1, min2 s.2 ((rec b i m).1.2 - d)), (rec b i m).2) := by rw [narHi, if_pos h0, hiB, if_pos h1]
theorem narHi_2 (h0 : v = a) (h1 : ¬ s.1 ≤ min2 s.2 ((rec b i m).1.2 - d)) : narHi rec s v a b d i m = (s, (rec b i m).2) := by rw [narHi, if_pos h0, hiB, if_neg h1]
theorem narHi_3 (h0 : ¬ v = a) : narHi rec s v a b d i m = (s, m) := if_neg h0
end
noncomputable def oc105 (k : Nat) : Orc where
 pure := fun f args => match f, args with
  | _, _ => none
 heap := fun f args H => match f, args with
  | 62, [.one (.c (.ptr b0 0 0 0)), a1, a2] => match cellsAs 128 H[b0]? with
   | some [c0_0_0, c0_0_1, c0_0_2, c0_0_3, c0_0_4, c0_0_5, c0_0_6, c0_0_7, c0_0_8, c0_0_9, c0_0_10, c0_0_11, c0_0_12, .map b1] => (match dA tI a1, dA tI a2, dCs tTrace [c0_0_0, c0_0_1, c0_0_2, c0_0_3, c0_0_4, c0_0_5, c0_0_6, c0_0_7, c0_0_8, c0_0_9, c0_0_10, c0_0_11, c0_0_12], mapAs 164 tVal tVal H[b1]? with
    | some x1, some x2, some y0_0, some (n1, y1) => hres [b0, b1] H (.agg (Ty.enc tVal ((spanM y0_0 k x1 x2 (n1, y1)).1))) [.cells 128 [.int .i64 y0_0.1, .int .i64 y0_0.2.1, .int .i64 y0_0.2.2.1, .ro tIns y0_0.2.2.2.1, .ro tExit y0_0.2.2.2.2.1, .int .i64 y0_0.2.2.2.2.2.1.1, .int .i64 y0_0.2.2.2.2.2.1.2.1, .ro tVal y0_0.2.2.2.2.2.1.2.2.1, .ro tMake y0_0.2.2.2.2.2.1.2.2.2, .int .i64 y0_0.2.2.2.2.2.2.1, .int .i64 y0_0.2.2.2.2.2.2.2.1, .ro tVal y0_0.2.2.2.2.2.2.2.2.1, .ro tMake y0_0.2.2.2.2.2.2.2.2.2, .map 1], .map 164 tVal tVal (spanM y0_0 k x1 x2 (n1, y1)).2.1 (spanM y0_0 k x1 x2 (n1, y1)).2.2]
    | _, _, _, _ => none)
   | _ => none
  | _, _ => none
def narrow_lv : LV := ⟨(true :: false :: true :: true :: true :: true :: true :: false :: true :: F4 (false :: true :: F32 (F8 (false :: [])))), [5]⟩
noncomputable def narrow_T (t : ETrace) (n : Nat) (m : EVal → Option EVal) (s : EVal) (v : Int) (a : Int) (b : Int) (d : Int) (q : Int) (k : Nat) : Tree :=
 .ite (decide (v = a))
 (.callH 62 [.c (.ptr 0 0 0 0), .c (.int .i64 b), .c (.int .i64 q)] [.cells 128 (Ty.enc tTrace t ++ [.map 1]), .map 164 tVal tVal n m, .cells 130 (Ty.enc tVal s), .cells 130 [.int .i64 0, .int .i64 0]] (.agg [.int .i64 (spanM t k b q (n, m)).1.1, .int .i64 (spanM t k b q (n, m)).1.2]) [.cells 128 (Ty.enc tTrace t ++ [.map 1]), .map 164 tVal tVal (spanM t k b q (n, m)).2.1 (spanM t k b q (n, m)).2.2, .cells 130 (Ty.enc tVal s), .cells 130 [.int .i64 0, .int .i64 0]] [0, 1] <|
  .need (inR .i64 ((spanM t k b q (n, m)).1.2 - d)) <|
  .need (inR .i64 ((spanM t k b q (n, m)).1.2 - d)) <|
  .ite (decide (s.1 ≤ (if ((spanM t k b q (n, m)).1.2 - d) < s.2 then ((spanM t k b q (n, m)).1.2 - d) else s.2)))
  (.stop (rg (bodyOf Tryd.f97) 5) (.c (.ptr 0 0 0 0) :: .junk :: .c (.int .i64 v) :: .c (.int .i64 a) :: .c (.int .i64 b) :: .c (.int .i64 d) :: .c (.int .i64 q) :: .junk :: .c (.ptr 2 0 0 0) :: J4 (.junk :: .c (.ptr 3 0 0 0) :: J32 (J8 (.junk :: [])))) [.cells 128 (Ty.enc tTrace t ++ [.map 1]), .map 164 tVal tVal (spanM t k b q (n, m)).2.1 (spanM t k b q (n, m)).2.2, .cells 130 [.int .i64 s.1, .int .i64 (if ((spanM t k b q (n, m)).1.2 - d) < s.2 then ((spanM t k b q (n, m)).1.2 - d) else s.2)], .cells 130 [.int .i64 0, .int .i64 0]])
  (.stop (rg (bodyOf Tryd.f97) 5) (.c (.ptr 0 0 0 0) :: .junk :: .c (.int .i64 v) :: .c (.int .i64 a) :: .c (.int .i64 b) :: .c (.int .i64 d) :: .c (.int .i64 q) :: .junk :: .c (.ptr 2 0 0 0) :: J4 (.junk :: .c (.ptr 3 0 0 0) :: J32 (J8 (.junk :: [])))) [.cells 128 (Ty.enc tTrace t ++ [.map 1]), .map 164 tVal tVal (spanM t k b q (n, m)).2.1 (spanM t k b q (n, m)).2.2, .cells 130 (Ty.enc tVal s), .cells 130 [.int .i64 0, .int .i64 0]]))
 (.stop (rg (bodyOf Tryd.f97) 5) (.c (.ptr 0 0 0 0) :: .junk :: .c (.int .i64 v) :: .c (.int .i64 a) :: .c (.int .i64 b) :: .c (.int .i64 d) :: .c (.int .i64 q) :: .junk :: .c (.ptr 2 0 0 0) :: J4 (.junk :: .c (.ptr 3 0 0 0) :: J32 (J8 (.junk :: [])))) [.cells 128 (Ty.enc tTrace t ++ [.map 1]), .map 164 tVal tVal n m, .cells 130 (Ty.enc tVal s), .cells 130 [.int .i64 0, .int .i64 0]])
theorem narrow_T_ok (t : ETrace) (n : Nat) (m : EVal → Option EVal) (s : EVal) (v : Int) (a : Int) (b : Int) (d : Int) (q : Int) (k : Nat) : aRun Tryd.prog (oc105 k) Tryd.f97 narrow_lv 3000 [.code (bodyOf Tryd.f97)] ([.c (.ptr 0 0 0 0), .agg (tVal.enc s), .c (.int .i64 v), .c (.int .i64 a), .c (.int .i64 b), .c (.int .i64 d), .c (.int .i64 q)] ++ List.replicate (Func.ntmps Tryd.f97 - 7) .junk) [.cells 128 (Ty.enc tTrace t ++ [.map 1]), .map 164 tVal tVal n m] = narrow_T t n m s v a b d q k := by kernel_rfl
noncomputable def narrow_r5_R (t : ETrace) (n : Nat) (m : EVal → Option EVal) (s : EVal) (v : Int) (a : Int) (b : Int) (d : Int) (q : Int) (k : Nat) (n1 : Nat) (m1 : EVal → Option EVal) (s0 : Int) (s1 : Int) : Tree :=
 .ite (decide (v = b))
 (.callH 62 [.c (.ptr 0 0 0 0), .c (.int .i64 a), .c (.int .i64 q)] [.cells 128 (Ty.enc tTrace t ++ [.map 1]), .map 164 tVal tVal n1 m1, .cells 130 [.int .i64 s0, .int .i64 s1], .cells 130 [.int .i64 0, .int .i64 0]] (.agg [.int .i64 (spanM t k a q (n1, m1)).1.1, .int .i64 (spanM t k a q (n1, m1)).1.2]) [.cells 128 (Ty.enc tTrace t ++ [.map 1]), .map 164 tVal tVal (spanM t k a q (n1, m1)).2.1 (spanM t k a q (n1, m1)).2.2, .cells 130 [.int .i64 s0, .int .i64 s1], .cells 130 [.int .i64 0, .int .i64 0]] [0, 1] <|
  .need (inR .i64 ((spanM t k a q (n1, m1)).1.1 + d)) <|
  .need (inR .i64 ((spanM t k a q (n1, m1)).1.1 + d)) <|
  .ite (decide ((if ((spanM t k a q (n1, m1)).1.1 + d) > s0 then ((spanM t k a q (n1, m1)).1.1 + d) else s0) ≤ s1))
  (.ret (.agg [.int .i64 (if ((spanM t k a q (n1, m1)).1.1 + d) > s0 then ((spanM t k a q (n1, m1)).1.1 + d) else s0), .int .i64 s1]) [.cells 128 (Ty.enc tTrace t ++ [.map 1]), .map 164 tVal tVal (spanM t k a q (n1, m1)).2.1 (spanM t k a q (n1, m1)).2.2, .cells 130 [.int .i64 (if ((spanM t k a q (n1, m1)).1.1 + d) > s0 then ((spanM t k a q (n1, m1)).1.1 + d) else s0), .int .i64 s1], .cells 130 [.int .i64 (if ((spanM t k a q (n1, m1)).1.1 + d) > s0 then ((spanM t k a q (n1, m1)).1.1 + d) else s0), .int .i64 s1]])
  (.ret (.agg [.int .i64 s0, .int .i64 s1]) [.cells 128 (Ty.enc tTrace t ++ [.map 1]), .map 164 tVal tVal (spanM t k a q (n1, m1)).2.1 (spanM t k a q (n1, m1)).2.2, .cells 130 [.int .i64 s0, .int .i64 s1], .cells 130 [.int .i64 s0, .int .i64 s1]]))
 (.ret (.agg [.int .i64 s0, .int .i64 s1]) [.cells 128 (Ty.enc tTrace t ++ [.map 1]), .map 164 tVal tVal n1 m1, .cells 130 [.int .i64 s0, .int .i64 s1], .cells 130 [.int .i64 s0, .int .i64 s1]])
theorem narrow_r5_R_ok (t : ETrace) (n : Nat) (m : EVal → Option EVal) (s : EVal) (v : Int) (a : Int) (b : Int) (d : Int) (q : Int) (k : Nat) (n1 : Nat) (m1 : EVal → Option EVal) (s0 : Int) (s1 : Int) : aRound Tryd.prog (oc105 k) Tryd.f97 narrow_lv 3000 (rg (bodyOf Tryd.f97) 5) (.c (.ptr 0 0 0 0) :: .junk :: .c (.int .i64 v) :: .c (.int .i64 a) :: .c (.int .i64 b) :: .c (.int .i64 d) :: .c (.int .i64 q) :: .junk :: .c (.ptr 2 0 0 0) :: J4 (.junk :: .c (.ptr 3 0 0 0) :: J32 (J8 (.junk :: [])))) [.cells 128 (Ty.enc tTrace t ++ [.map 1]), .map 164 tVal tVal n1 m1, .cells 130 [.int .i64 s0, .int .i64 s1], .cells 130 [.int .i64 0, .int .i64 0]] = narrow_r5_R t n m s v a b d q k n1 m1 s0 s1 := by kernel_rfl
theorem narrow_r5 (t : ETrace) (n : Nat) (m : EVal → Option EVal) (s : EVal) (v : Int) (a : Int) (b : Int) (d : Int) (q : Int) (k : Nat) (n1 : Nat) (m1 : EVal → Option EVal) (s0 : Int) (s1 : Int) (bd : Int) (hd : DomC t) (hr : SpanC t k bd) (hk : bd.toNat ≤ k) (hbl : bd ≤ (t.2.2.2.1.length : Int)) (hq : q < bd) (ha : 0 ≤ a ∧ a < q) (hb : 0 ≤ b ∧ b < q) (hd2 : 0 ≤ d ∧ d ≤ 1) (hm : KeptOk t (n1, m1)) : RunN 2 Tryd.prog 97 (finQ Tryd.prog 2 (.agg (Ty.enc tVal ((narLo (spanM t k) (s0, s1) v a b d q (n1, m1)).1))) [.cells 128 (Ty.enc tTrace t ++ [.map 1]), .map 164 tVal tVal (narLo (spanM t k) (s0, s1) v a b d q (n1, m1)).2.1 (narLo (spanM t k) (s0, s1) v a b d q (n1, m1)).2.2]) (rg (bodyOf Tryd.f97) 5) (.c (.ptr 0 0 0 0) :: .junk :: .c (.int .i64 v) :: .c (.int .i64 a) :: .c (.int .i64 b) :: .c (.int .i64 d) :: .c (.int .i64 q) :: .junk :: .c (.ptr 2 0 0 0) :: J4 (.junk :: .c (.ptr 3 0 0 0) :: J32 (J8 (.junk :: [])))) [.cells 128 (Ty.enc tTrace t ++ [.map 1]), .map 164 tVal tVal n1 m1, .cells 130 [.int .i64 s0, .int .i64 s1], .cells 130 [.int .i64 0, .int .i64 0]] :=
 Run.roundA (oc105 k) narrow_lv 3000 Tryd.func97 mixed (narrow_r5_R t n m s v a b d q k n1 m1 s0 s1) (narrow_r5_R_ok t n m s v a b d q k n1 m1 s0 s1) (by
  unfold narrow_r5_R
  obtain ⟨eA, kA, _⟩ := spanM_ok hd.toDomT k a q (n1, m1) (by omega) ha.1 ha.2 (by omega) hm
  have iA : InB (spanM t k a q (n1, m1)).1 := by rw [eA]; exact spanF_in hd ha.1 ha.2 (by omega)
  unfold InB at iA
  refine g_iteD (fun h0 => ?_) (fun h0 => ?_)
  ·refine g_callH (AFunH.frameB [0, 1] (hr a q n1 m1 (by omega) (by omega) (by omega) (by first | exact hm | exact kA | exact kB | exact kC | exact kD)) rfl rfl rfl rfl rfl rfl rfl) ?_
   refine g_need (by first | (rw [i64_iff]; omega) | omega | (constructor <;> omega) | (rw [i64_iff]; omega) | (rw [i64_iff]; constructor <;> omega) | rfl | (simp; done)) ?_
   refine g_need (by first | (rw [i64_iff]; omega) | omega | (constructor <;> omega) | (rw [i64_iff]; omega) | (rw [i64_iff]; constructor <;> omega) | rfl | (simp; done)) ?_
   refine g_iteD (fun h1 => ?_) (fun h1 => ?_)
   ·first | rw [narLo_1 (rec := spanM t k) (s := (s0, s1)) (a := a) (i := q) (m := (n1, m1)) (d := d) h0 h1] | rw [narLo_2 (rec := spanM t k) (s := (s0, s1)) (a := a) (i := q) (m := (n1, m1)) (d := d) h0 h1] | rw [narLo_3 h0]
    refine g_fin ?_
    exact g_end [0, 1] (show ∀ k, k < 2 → ([0, 1] : List Nat)[k]? = some k by decide) (by decide) (⟨⟨rfl, rfl⟩, ⟨rfl, rfl⟩, trivial⟩) ⟨leB.refl _, rfl, trivial⟩
   ·first | rw [narLo_1 (rec := spanM t k) (s := (s0, s1)) (a := a) (i := q) (m := (n1, m1)) (d := d) h0 h1] | rw [narLo_2 (rec := spanM t k) (s := (s0, s1)) (a := a) (i := q) (m := (n1, m1)) (d := d) h0 h1] | rw [narLo_3 h0]
    refine g_fin ?_
    exact g_end [0, 1] (show ∀ k, k < 2 → ([0, 1] : List Nat)[k]? = some k by decide) (by decide) (⟨⟨rfl, rfl⟩, ⟨rfl, rfl⟩, trivial⟩) ⟨leB.refl _, rfl, trivial⟩
  ·first | rw [narLo_1 (rec := spanM t k) (s := (s0, s1)) (a := a) (i := q) (m := (n1, m1)) (d := d) h0 h1] | rw [narLo_2 (rec := spanM t k) (s := (s0, s1)) (a := a) (i := q) (m := (n1, m1)) (d := d) h0 h1] | rw [narLo_3 h0]
   refine g_fin ?_
   exact g_end [0, 1] (show ∀ k, k < 2 → ([0, 1] : List Nat)[k]? = some k by decide) (by decide) (⟨⟨rfl, rfl⟩, ⟨rfl, rfl⟩, trivial⟩) ⟨leB.refl _, rfl, trivial⟩
  )
theorem narrow_fun (t : ETrace) (n : Nat) (m : EVal → Option EVal) (s : EVal) (v : Int) (a : Int) (b : Int) (d : Int) (q : Int) (k : Nat) (bd : Int) (hd : DomC t) (hr : SpanC t k bd) (hk : bd.toNat ≤ k) (hbl : bd ≤ (t.2.2.2.1.length : Int)) (hq : q < bd) (ha : 0 ≤ a ∧ a < q) (hb : 0 ≤ b ∧ b < q) (hd2 : 0 ≤ d ∧ d ≤ 1) (hm : KeptOk t (n, m)) : AFunH Tryd.prog 97 [.c (.ptr 0 0 0 0), .agg (tVal.enc s), .c (.int .i64 v), .c (.int .i64 a), .c (.int .i64 b), .c (.int .i64 d), .c (.int .i64 q)] [.cells 128 (Ty.enc tTrace t ++ [.map 1]), .map 164 tVal tVal n m] (.agg (Ty.enc tVal ((narM (spanM t k) s v a b d q (n, m)).1))) [.cells 128 (Ty.enc tTrace t ++ [.map 1]), .map 164 tVal tVal (narM (spanM t k) s v a b d q (n, m)).2.1 (narM (spanM t k) s v a b d q (n, m)).2.2] (List.range 2) :=
 AFunH.ofL (oc105 k) narrow_lv 3000 Tryd.func97 mixed rfl (by decide) (Nat.le_of_ble_eq_true rfl) rfl rfl (Nat.le_of_ble_eq_true rfl) _ (narrow_T_ok t n m s v a b d q k) fun hF => by
  obtain ⟨eA, kA, _⟩ := spanM_ok hd.toDomT k b q (n, m) (by omega) hb.1 hb.2 (by omega) hm
  have iA : InB (spanM t k b q (n, m)).1 := by rw [eA]; exact spanF_in hd hb.1 hb.2 (by omega)
  unfold InB at iA
  unfold narrow_T
  refine g_iteD (fun h0 => ?_) (fun h0 => ?_)
  ·refine g_callH (AFunH.frameB [0, 1] (hr b q n m (by omega) (by omega) (by omega) (by first | exact hm | exact kA | exact kB | exact kC | exact kD)) rfl rfl rfl rfl rfl rfl rfl) ?_
   refine g_need (by first | (rw [i64_iff]; omega) | omega | (constructor <;> omega) | (rw [i64_iff]; omega) | (rw [i64_iff]; constructor <;> omega) | rfl | (simp; done)) ?_
   refine g_need (by first | (rw [i64_iff]; omega) | omega | (constructor <;> omega) | (rw [i64_iff]; omega) | (rw [i64_iff]; constructor <;> omega) | rfl | (simp; done)) ?_
   refine g_iteD (fun h1 => ?_) (fun h1 => ?_)
   ·refine g_stop (RunN.keep [0, 1, 2, 3] (true :: false :: true :: true :: true :: true :: true :: false :: true :: F4 (false :: true :: F32 (F8 (false :: [])))) (show ∀ k, k < 2 → ([0, 1, 2, 3] : List Nat)[k]? = some k by decide) (by decide) rfl rfl ?_)
    have ht := narrow_r5 t n m s v a b d q k (spanM t k b q (n, m)).2.1 (spanM t k b q (n, m)).2.2 s.1 (if ((spanM t k b q (n, m)).1.2 - d) < s.2 then ((spanM t k b q (n, m)).1.2 - d) else s.2) bd hd hr hk hbl hq ha hb hd2 (by first | exact hm | exact kA | exact kB | exact kC | exact kD); (first | rw [narM, narHi_1 (rec := spanM t k) (s := s) (b := b) (i := q) (m := (n, m)) (d := d) h0 h1] | rw [narM, narHi_2 (rec := spanM t k) (s := s) (b := b) (i := q) (m := (n, m)) (d := d) h0 h1] | rw [narM, narHi_3 h0]); exact ht
   ·refine g_stop (RunN.keep [0, 1, 2, 3] (true :: false :: true :: true :: true :: true :: true :: false :: true :: F4 (false :: true :: F32 (F8 (false :: [])))) (show ∀ k, k < 2 → ([0, 1, 2, 3] : List Nat)[k]? = some k by decide) (by decide) rfl rfl ?_)
    have ht := narrow_r5 t n m s v a b d q k (spanM t k b q (n, m)).2.1 (spanM t k b q (n, m)).2.2 s.1 s.2 bd hd hr hk hbl hq ha hb hd2 (by first | exact hm | exact kA | exact kB | exact kC | exact kD); (first | rw [narM, narHi_1 (rec := spanM t k) (s := s) (b := b) (i := q) (m := (n, m)) (d := d) h0 h1] | rw [narM, narHi_2 (rec := spanM t k) (s := s) (b := b) (i := q) (m := (n, m)) (d := d) h0 h1] | rw [narM, narHi_3 h0]); exact ht
  ·refine g_stop (RunN.keep [0, 1, 2, 3] (true :: false :: true :: true :: true :: true :: true :: false :: true :: F4 (false :: true :: F32 (F8 (false :: [])))) (show ∀ k, k < 2 → ([0, 1, 2, 3] : List Nat)[k]? = some k by decide) (by decide) rfl rfl ?_)
   have ht := narrow_r5 t n m s v a b d q k n m s.1 s.2 bd hd hr hk hbl hq ha hb hd2 (by first | exact hm | exact kA | exact kB | exact kC | exact kD); (first | rw [narM, narHi_1 (rec := spanM t k) (s := s) (b := b) (i := q) (m := (n, m)) (d := d) h0 h1] | rw [narM, narHi_2 (rec := spanM t k) (s := s) (b := b) (i := q) (m := (n, m)) (d := d) h0 h1] | rw [narM, narHi_3 h0]); exact ht

end Go.Proofs.YtefkifdhjabdiaaDoor
