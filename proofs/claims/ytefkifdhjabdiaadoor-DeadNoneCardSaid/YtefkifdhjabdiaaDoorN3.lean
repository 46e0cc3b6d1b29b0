/- What the laws' texts lean on, part 4: lemmas and the contracts of functions. No condition. -/
import Derived.Test.YtefkifdhjabdiaaDoorN1
import Derived.Test.YtefkifdhjabdiaaDoorN2
import Derived.OrdersIn
import Derived.RangeFuncCalls
import Derived.RangeFuncBox
import Derived.RangeFuncLeaves
import Derived.Shelf.Abstract
import Derived.WalkKit
import Derived.OwnWalkIn
import Derived.TacticsInMore
import Derived.LoopNIn
import Derived.LoopIn
namespace Go.Proofs.YtefkifdhjabdiaaDoor
set_option linter.unusedVariables false
set_option linter.unusedSimpArgs false
set_option maxRecDepth 100000
def wordsC : ByteArray := ⟨#[107, 105, 110, 100, 32, 114, 97, 110, 103, 101, 32, 122, 101, 114, 111, 32, 105, 110, 100, 101, 120, 32, 108, 97, 114, 103, 101, 32, 100, 101, 101, 112, 32, 115, 116, 97, 116, 101, 32, 99, 111, 117, 110, 116, 32, 110, 105, 108, 32, 98, 111, 111, 108, 32, 105, 110, 116, 32, 102, 108, 111, 97, 116, 32, 116, 101, 120, 116, 32, 111, 98, 106, 101, 99, 116, 32, 108, 105, 115, 116, 32, 102, 117, 110, 99, 116, 105, 111, 110, 32, 103, 101, 110, 101, 114, 97, 116, 111, 114, 32, 108, 111, 99, 107, 32, 119, 101, 97, 107]⟩
def spA (s : ByteArray) (i : Nat) : Int := globL1.getD (Int.toNat (UInt8.toNat (s[i]!) : Int)) (Ty.dflt (.int .u8))
def nxN (s : ByteArray) (n was : Int) (i : Nat) : Int := n + bitsF .and .i64 was (bitsF .xor .i64 (if IntKind.signed .i64 then -1 else IntKind.max .i64) (spA s i))
def m0 (s : ByteArray) : Nat → Int → Int → Int → Nat → Option Int
 | 0, _, _, _, _ => none
 | f + 1, n, was, bits, i => if i < s.size then (if inR .i64 (nxN s n was i) then m0 s f (nxN s n was i) (spA s i) (bitsF .or .u8 bits (UInt8.toNat (s[i]!) : Int)) (i + 1) else none) else if 128 ≤ bits then none else if 0 ≤ n ∧ n ≤ 1000 then some n else none
def wF (s : ByteArray) (n : Nat) : Nat → Bool → Nat → Nat → Nat → List ByteArray → Option (List ByteArray)
 | 0, _, _, _, _, _ => none
 | f + 1, true, na, fs, i, a => if i < s.size then (if spA s i = 0 then wF s n f true na fs (i + 1) a else if fs ≤ i ∧ na < n then wF s n f false (na + 1) 0 (i + 1) (a.set na (s.extract fs i)) else none) else if fs < s.size then (if na < n then some (a.set na (s.extract fs s.size)) else none) else some a
 | f + 1, false, na, _, i, a => if i < s.size then (if spA s i = 0 then wF s n f true na i i a else wF s n f false na 0 (i + 1) a) else wF s n f true na i i a
def w1F (s : ByteArray) (n : Nat) : Nat → Nat → List ByteArray → Option (List ByteArray)
 | 0, _, _ => none
 | f + 1, i, a => if i < s.size then (if spA s i = 0 then wF s n f true 0 i i a else w1F s n f (i + 1) a) else wF s n f true 0 i i a
theorem lenL1 : globL1.length = 256 := by kernel_rfl
def fields_lv : LV := ⟨(true :: F2 (true :: true :: true :: true :: F2 (true :: true :: true :: true :: F32 (F32 (F16 (F8 (F4 (false :: [])))))))), [13, 14]⟩
noncomputable def fields_T (s : ByteArray) : Tree :=
 .stop (lp (bodyOf Tryd.f142) 0) (.c (.str s) :: J2 (.c (.int .i64 0) :: .c (.int .i64 1) :: .c (.int .u8 0) :: .c (.int .i64 0) :: J32 (J32 (J32 (J2 (.junk :: [])))))) []
theorem fields_T_ok (s : ByteArray) : aRun Tryd.prog oc0 Tryd.f142 fields_lv 3000 [.code (bodyOf Tryd.f142)] ([.c (.str s)] ++ List.replicate (Func.ntmps Tryd.f142 - 1) .junk) [] = fields_T s := by kernel_rfl
noncomputable def fields_l0_R (s : ByteArray) (n : Int) (was : Int) (bits : Int) (i : Nat) : Tree :=
 .ite (decide (((i : Nat) : Int) < (s.size : Int)))
 (.need ((0 : Int) ≤ ((i : Nat) : Int) ∧ (((i : Nat) : Int) : Int) < (s.size : Int)) <|
  .need ((0 : Int) ≤ (UInt8.toNat (s[i]!) : Int) ∧ ((UInt8.toNat (s[i]!) : Int) : Int) < ((256 : Nat) : Int) ∧ 256 ≤ globL1.length) <|
  .need ((Int.toNat (UInt8.toNat (s[i]!) : Int)) < globL1.length) <|
  .need (inR .i64 (n + (bitsF .and .i64 was (bitsF .xor .i64 (if IntKind.signed .i64 then -1 else IntKind.max .i64) (globL1.getD (Int.toNat (UInt8.toNat (s[i]!) : Int)) ((.int .u8) : Ty).dflt))))) <|
  .need (inR .i64 (((i : Nat) : Int) + 1)) <|
  .stop (lp (bodyOf Tryd.f142) 0) (.c (.str s) :: J2 (.c (.int .i64 (n + (bitsF .and .i64 was (bitsF .xor .i64 (if IntKind.signed .i64 then -1 else IntKind.max .i64) (globL1.getD (Int.toNat (UInt8.toNat (s[i]!) : Int)) ((.int .u8) : Ty).dflt))))) :: .c (.int .i64 (globL1.getD (Int.toNat (UInt8.toNat (s[i]!) : Int)) ((.int .u8) : Ty).dflt)) :: .c (.int .u8 (bitsF .or .u8 bits (UInt8.toNat (s[i]!) : Int))) :: .c (.int .i64 (((i : Nat) : Int) + 1)) :: J32 (J32 (J32 (J2 (.junk :: [])))))) [])
 (.ite (decide ((128 : Int) ≤ bits))
  (.stop (rg (bodyOf Tryd.f142) 13) (.c (.str s) :: J2 (.c (.int .i64 n) :: .c (.int .i64 was) :: .c (.int .u8 bits) :: .c (.int .i64 ((i : Nat) : Int)) :: J32 (J32 (J32 (J2 (.junk :: [])))))) [])
  (.stop (rg (bodyOf Tryd.f142) 14) (.c (.str s) :: J2 (.c (.int .i64 n) :: .c (.int .i64 was) :: .c (.int .u8 bits) :: .c (.int .i64 ((i : Nat) : Int)) :: J32 (J32 (J32 (J2 (.junk :: [])))))) []))
theorem fields_l0_R_ok (s : ByteArray) (n : Int) (was : Int) (bits : Int) (i : Nat) : aRound Tryd.prog oc0 Tryd.f142 fields_lv 3000 (lp (bodyOf Tryd.f142) 0) (.c (.str s) :: J2 (.c (.int .i64 n) :: .c (.int .i64 was) :: .c (.int .u8 bits) :: .c (.int .i64 ((i : Nat) : Int)) :: J32 (J32 (J32 (J2 (.junk :: [])))))) [] = fields_l0_R s n was bits i := by kernel_rfl
noncomputable def fields_r14_R (s : ByteArray) (N : Int) : Tree :=
 .need ((0 : Int) ≤ N ∧ (N : Int) ≤ N ∧ (N : Int) ≤ 140737488355328 ∧ (16 : Int) * N ≤ 140737488355328) <|
 .stop (lp (bodyOf Tryd.f142) 1) (.c (.str s) :: J2 (.c (.int .i64 N) :: J4 (.junk :: .c (.sl 0 1 0 (Int.toNat N)) :: .c (.int .i64 0) :: .c (.int .i64 0) :: .c (.int .i64 0) :: J32 (J32 (J16 (J8 (J4 (.junk :: [])))))))) [.vec 9 .str (List.replicate (Int.toNat N) ByteArray.empty)]
theorem fields_r14_R_ok (s : ByteArray) (N : Int) : aRound Tryd.prog oc0 Tryd.f142 fields_lv 3000 (rg (bodyOf Tryd.f142) 14) (.c (.str s) :: J2 (.c (.int .i64 N) :: J32 (J32 (J32 (J4 (J2 ([]))))))) [] = fields_r14_R s N := by kernel_rfl
noncomputable def fields_l1_R (s : ByteArray) (n : Nat) (a : List ByteArray) (i : Nat) : Tree :=
 .ite (decide (((i : Nat) : Int) < (s.size : Int)))
 (.need ((0 : Int) ≤ ((i : Nat) : Int) ∧ (((i : Nat) : Int) : Int) < (s.size : Int)) <|
  .need ((0 : Int) ≤ (UInt8.toNat (s[i]!) : Int) ∧ ((UInt8.toNat (s[i]!) : Int) : Int) < ((256 : Nat) : Int) ∧ 256 ≤ globL1.length) <|
  .need ((Int.toNat (UInt8.toNat (s[i]!) : Int)) < globL1.length) <|
  .ite ((!(decide ((globL1.getD (Int.toNat (UInt8.toNat (s[i]!) : Int)) ((.int .u8) : Ty).dflt) = 0))))
  (.need (inR .i64 (((i : Nat) : Int) + 1)) <|
  .stop (lp (bodyOf Tryd.f142) 1) (.c (.str s) :: J8 (.c (.sl 0 1 0 n) :: .c (.int .i64 0) :: .junk :: .c (.int .i64 (((i : Nat) : Int) + 1)) :: J32 (J32 (J16 (J8 (J4 (.junk :: []))))))) [.vec 9 .str a])
  (.stop (lp (bodyOf Tryd.f142) 2) (.c (.str s) :: J8 (.c (.sl 0 1 0 n) :: .c (.int .i64 0) :: .c (.int .i64 ((i : Nat) : Int)) :: .c (.int .i64 ((i : Nat) : Int)) :: J32 (J32 (J16 (J8 (J4 (.junk :: []))))))) [.vec 9 .str a]))
 (.stop (lp (bodyOf Tryd.f142) 2) (.c (.str s) :: J8 (.c (.sl 0 1 0 n) :: .c (.int .i64 0) :: .c (.int .i64 ((i : Nat) : Int)) :: .c (.int .i64 ((i : Nat) : Int)) :: J32 (J32 (J16 (J8 (J4 (.junk :: []))))))) [.vec 9 .str a])
theorem fields_l1_R_ok (s : ByteArray) (n : Nat) (a : List ByteArray) (i : Nat) : aRound Tryd.prog oc0 Tryd.f142 fields_lv 3000 (lp (bodyOf Tryd.f142) 1) (.c (.str s) :: J8 (.c (.sl 0 1 0 n) :: .c (.int .i64 0) :: .junk :: .c (.int .i64 ((i : Nat) : Int)) :: J32 (J32 (J16 (J8 (J4 (.junk :: []))))))) [.vec 9 .str a] = fields_l1_R s n a i := by kernel_rfl
noncomputable def fields_l2_R (s : ByteArray) (n : Nat) (a : List ByteArray) (na : Nat) (fs : Nat) (i : Nat) : Tree :=
 .ite (decide (((i : Nat) : Int) < (s.size : Int)))
 (.need ((0 : Int) ≤ ((i : Nat) : Int) ∧ (((i : Nat) : Int) : Int) < (s.size : Int)) <|
  .need ((0 : Int) ≤ (UInt8.toNat (s[i]!) : Int) ∧ ((UInt8.toNat (s[i]!) : Int) : Int) < ((256 : Nat) : Int) ∧ 256 ≤ globL1.length) <|
  .need ((Int.toNat (UInt8.toNat (s[i]!) : Int)) < globL1.length) <|
  .ite (decide ((globL1.getD (Int.toNat (UInt8.toNat (s[i]!) : Int)) ((.int .u8) : Ty).dflt) = 0))
  (.need (inR .i64 (((i : Nat) : Int) + 1)) <|
  .stop (lp (bodyOf Tryd.f142) 2) (.c (.str s) :: J8 (.c (.sl 0 1 0 n) :: .c (.int .i64 ((na : Nat) : Int)) :: .c (.int .i64 ((fs : Nat) : Int)) :: .c (.int .i64 (((i : Nat) : Int) + 1)) :: J32 (J32 (J16 (J8 (J4 (.junk :: []))))))) [.vec 9 .str a])
  (.need ((0 : Int) ≤ ((fs : Nat) : Int) ∧ (((fs : Nat) : Int) : Int) ≤ ((i : Nat) : Int) ∧ (((i : Nat) : Int) : Int) ≤ (s.size : Int)) <|
  .need ((0 : Int) ≤ ((na : Nat) : Int) ∧ (((na : Nat) : Int) : Int) < ((n : Nat) : Int)) <|
  .need ((0 + na) < a.length) <|
  .need (inR .i64 (((na : Nat) : Int) + 1)) <|
  .need (inR .i64 (((i : Nat) : Int) + 1)) <|
  .stop (lp (bodyOf Tryd.f142) 3) (.c (.str s) :: J8 (.c (.sl 0 1 0 n) :: .c (.int .i64 (((na : Nat) : Int) + 1)) :: .c (.int .i64 ((fs : Nat) : Int)) :: .c (.int .i64 (((i : Nat) : Int) + 1)) :: J32 (J32 (J16 (J8 (J4 (.junk :: []))))))) [.vec 9 .str (a.set (0 + na) (s.extract fs i))]))
 (.ite (decide (((fs : Nat) : Int) < (s.size : Int)))
  (.need ((0 : Int) ≤ ((fs : Nat) : Int) ∧ (((fs : Nat) : Int) : Int) ≤ (s.size : Int)) <|
  .need ((0 : Int) ≤ ((na : Nat) : Int) ∧ (((na : Nat) : Int) : Int) < ((n : Nat) : Int)) <|
  .need ((0 + na) < a.length) <|
  .ret (.c (.sl 0 1 0 n)) [.vec 9 .str (a.set (0 + na) (s.extract fs s.size))])
  (.ret (.c (.sl 0 1 0 n)) [.vec 9 .str a]))
theorem fields_l2_R_ok (s : ByteArray) (n : Nat) (a : List ByteArray) (na : Nat) (fs : Nat) (i : Nat) : aRound Tryd.prog oc0 Tryd.f142 fields_lv 3000 (lp (bodyOf Tryd.f142) 2) (.c (.str s) :: J8 (.c (.sl 0 1 0 n) :: .c (.int .i64 ((na : Nat) : Int)) :: .c (.int .i64 ((fs : Nat) : Int)) :: .c (.int .i64 ((i : Nat) : Int)) :: J32 (J32 (J16 (J8 (J4 (.junk :: []))))))) [.vec 9 .str a] = fields_l2_R s n a na fs i := by kernel_rfl
noncomputable def fields_l3_R (s : ByteArray) (n : Nat) (a : List ByteArray) (na : Nat) (i : Nat) : Tree :=
 .ite (decide (((i : Nat) : Int) < (s.size : Int)))
 (.need ((0 : Int) ≤ ((i : Nat) : Int) ∧ (((i : Nat) : Int) : Int) < (s.size : Int)) <|
  .need ((0 : Int) ≤ (UInt8.toNat (s[i]!) : Int) ∧ ((UInt8.toNat (s[i]!) : Int) : Int) < ((256 : Nat) : Int) ∧ 256 ≤ globL1.length) <|
  .need ((Int.toNat (UInt8.toNat (s[i]!) : Int)) < globL1.length) <|
  .ite ((!(decide ((globL1.getD (Int.toNat (UInt8.toNat (s[i]!) : Int)) ((.int .u8) : Ty).dflt) = 0))))
  (.need (inR .i64 (((i : Nat) : Int) + 1)) <|
  .stop (lp (bodyOf Tryd.f142) 3) (.c (.str s) :: J8 (.c (.sl 0 1 0 n) :: .c (.int .i64 ((na : Nat) : Int)) :: .junk :: .c (.int .i64 (((i : Nat) : Int) + 1)) :: J32 (J32 (J16 (J8 (J4 (.junk :: []))))))) [.vec 9 .str a])
  (.stop (lp (bodyOf Tryd.f142) 2) (.c (.str s) :: J8 (.c (.sl 0 1 0 n) :: .c (.int .i64 ((na : Nat) : Int)) :: .c (.int .i64 ((i : Nat) : Int)) :: .c (.int .i64 ((i : Nat) : Int)) :: J32 (J32 (J16 (J8 (J4 (.junk :: []))))))) [.vec 9 .str a]))
 (.stop (lp (bodyOf Tryd.f142) 2) (.c (.str s) :: J8 (.c (.sl 0 1 0 n) :: .c (.int .i64 ((na : Nat) : Int)) :: .c (.int .i64 ((i : Nat) : Int)) :: .c (.int .i64 ((i : Nat) : Int)) :: J32 (J32 (J16 (J8 (J4 (.junk :: []))))))) [.vec 9 .str a])
theorem fields_l3_R_ok (s : ByteArray) (n : Nat) (a : List ByteArray) (na : Nat) (i : Nat) : aRound Tryd.prog oc0 Tryd.f142 fields_lv 3000 (lp (bodyOf Tryd.f142) 3) (.c (.str s) :: J8 (.c (.sl 0 1 0 n) :: .c (.int .i64 ((na : Nat) : Int)) :: .junk :: .c (.int .i64 ((i : Nat) : Int)) :: J32 (J32 (J16 (J8 (J4 (.junk :: []))))))) [.vec 9 .str a] = fields_l3_R s n a na i := by kernel_rfl
theorem fields_w (s : ByteArray) (W : List ByteArray) (hs : s.size ≤ 1000) : ∀ f : Nat, (∀ (n : Nat) (a : List ByteArray) (na fs i : Nat), a.length = n → n ≤ 1000 → wF s n f true na fs i a = some W → Run Tryd.prog 142 (retQ Tryd.prog (.c (.ro .str W))) (lp (bodyOf Tryd.f142) 2) (.c (.str s) :: J8 (.c (.sl 0 1 0 n) :: .c (.int .i64 ((na : Nat) : Int)) :: .c (.int .i64 ((fs : Nat) : Int)) :: .c (.int .i64 ((i : Nat) : Int)) :: J32 (J32 (J16 (J8 (J4 (.junk :: []))))))) [.vec 9 .str a]) ∧ (∀ (n : Nat) (a : List ByteArray) (na fs i : Nat), a.length = n → n ≤ 1000 → wF s n f false na fs i a = some W → Run Tryd.prog 142 (retQ Tryd.prog (.c (.ro .str W))) (lp (bodyOf Tryd.f142) 3) (.c (.str s) :: J8 (.c (.sl 0 1 0 n) :: .c (.int .i64 ((na : Nat) : Int)) :: .junk :: .c (.int .i64 ((i : Nat) : Int)) :: J32 (J32 (J16 (J8 (J4 (.junk :: []))))))) [.vec 9 .str a]) := by
 intro f
 induction f with
 | zero => exact ⟨fun n a na fs i _ _ h => absurd h (by simp [wF]), fun n a na fs i _ _ h => absurd h (by simp [wF])⟩
 | succ f ih =>
  refine ⟨fun n a na fs i ha hn hm => ?_, fun n a na fs i ha hn hm => ?_⟩
  ·unfold wF at hm
   refine Run.roundA oc0 fields_lv 3000 Tryd.func142 mixed (fields_l2_R s n a na fs i) (fields_l2_R_ok s n a na fs i) ?_
   unfold fields_l2_R
   refine g_iteD (fun h0 => ?_) (fun h0 => ?_)
   ·refine g_need (by first | omega | (have hb := (s[i]!).toNat_lt; have hL := lenL1; first | omega | (constructor <;> omega) | (refine ⟨?_, ?_, ?_⟩ <;> omega) | (rw [i64_iff]; constructor <;> omega)) | (rw [i64_iff]; constructor <;> omega) | (have q : fs ≤ i ∧ na < n := (by rcases Decidable.em (fs ≤ i ∧ na < n) with q | q; exact q; rw [if_pos (by omega), if_neg (show ¬ spA s i = 0 from h1), if_neg q] at hm; cases hm); first | omega | (constructor <;> omega) | (refine ⟨?_, ?_, ?_⟩ <;> omega) | (rw [i64_iff]; constructor <;> omega)) | (have q : na < n := (by rcases Decidable.em (na < n) with q | q; exact q; rw [if_neg (by omega), if_pos (by omega), if_neg q] at hm; cases hm); first | omega | (constructor <;> omega) | (refine ⟨?_, ?_, ?_⟩ <;> omega) | (rw [i64_iff]; constructor <;> omega)) | (simp [ha])) ?_
    refine g_need (by first | omega | (have hb := (s[i]!).toNat_lt; have hL := lenL1; first | omega | (constructor <;> omega) | (refine ⟨?_, ?_, ?_⟩ <;> omega) | (rw [i64_iff]; constructor <;> omega)) | (rw [i64_iff]; constructor <;> omega) | (have q : fs ≤ i ∧ na < n := (by rcases Decidable.em (fs ≤ i ∧ na < n) with q | q; exact q; rw [if_pos (by omega), if_neg (show ¬ spA s i = 0 from h1), if_neg q] at hm; cases hm); first | omega | (constructor <;> omega) | (refine ⟨?_, ?_, ?_⟩ <;> omega) | (rw [i64_iff]; constructor <;> omega)) | (have q : na < n := (by rcases Decidable.em (na < n) with q | q; exact q; rw [if_neg (by omega), if_pos (by omega), if_neg q] at hm; cases hm); first | omega | (constructor <;> omega) | (refine ⟨?_, ?_, ?_⟩ <;> omega) | (rw [i64_iff]; constructor <;> omega)) | (simp [ha])) ?_
    refine g_need (by first | omega | (have hb := (s[i]!).toNat_lt; have hL := lenL1; first | omega | (constructor <;> omega) | (refine ⟨?_, ?_, ?_⟩ <;> omega) | (rw [i64_iff]; constructor <;> omega)) | (rw [i64_iff]; constructor <;> omega) | (have q : fs ≤ i ∧ na < n := (by rcases Decidable.em (fs ≤ i ∧ na < n) with q | q; exact q; rw [if_pos (by omega), if_neg (show ¬ spA s i = 0 from h1), if_neg q] at hm; cases hm); first | omega | (constructor <;> omega) | (refine ⟨?_, ?_, ?_⟩ <;> omega) | (rw [i64_iff]; constructor <;> omega)) | (have q : na < n := (by rcases Decidable.em (na < n) with q | q; exact q; rw [if_neg (by omega), if_pos (by omega), if_neg q] at hm; cases hm); first | omega | (constructor <;> omega) | (refine ⟨?_, ?_, ?_⟩ <;> omega) | (rw [i64_iff]; constructor <;> omega)) | (simp [ha])) ?_
    refine g_iteD (fun h1 => ?_) (fun h1 => ?_)
    ·refine g_need (by first | omega | (have hb := (s[i]!).toNat_lt; have hL := lenL1; first | omega | (constructor <;> omega) | (refine ⟨?_, ?_, ?_⟩ <;> omega) | (rw [i64_iff]; constructor <;> omega)) | (rw [i64_iff]; constructor <;> omega) | (have q : fs ≤ i ∧ na < n := (by rcases Decidable.em (fs ≤ i ∧ na < n) with q | q; exact q; rw [if_pos (by omega), if_neg (show ¬ spA s i = 0 from h1), if_neg q] at hm; cases hm); first | omega | (constructor <;> omega) | (refine ⟨?_, ?_, ?_⟩ <;> omega) | (rw [i64_iff]; constructor <;> omega)) | (have q : na < n := (by rcases Decidable.em (na < n) with q | q; exact q; rw [if_neg (by omega), if_pos (by omega), if_neg q] at hm; cases hm); first | omega | (constructor <;> omega) | (refine ⟨?_, ?_, ?_⟩ <;> omega) | (rw [i64_iff]; constructor <;> omega)) | (simp [ha])) ?_
     refine g_stop (RunN.keep [0] (true :: F8 (true :: true :: true :: true :: F32 (F32 (F16 (F8 (F4 (false :: []))))))) n0 (by decide) rfl rfl ?_)
     rw [if_pos (by omega), if_pos (show spA s i = 0 from h1)] at hm; exact ih.1 n a na fs (i + 1) ha hn hm
    ·refine g_need (by first | omega | (have hb := (s[i]!).toNat_lt; have hL := lenL1; first | omega | (constructor <;> omega) | (refine ⟨?_, ?_, ?_⟩ <;> omega) | (rw [i64_iff]; constructor <;> omega)) | (rw [i64_iff]; constructor <;> omega) | (have q : fs ≤ i ∧ na < n := (by rcases Decidable.em (fs ≤ i ∧ na < n) with q | q; exact q; rw [if_pos (by omega), if_neg (show ¬ spA s i = 0 from h1), if_neg q] at hm; cases hm); first | omega | (constructor <;> omega) | (refine ⟨?_, ?_, ?_⟩ <;> omega) | (rw [i64_iff]; constructor <;> omega)) | (have q : na < n := (by rcases Decidable.em (na < n) with q | q; exact q; rw [if_neg (by omega), if_pos (by omega), if_neg q] at hm; cases hm); first | omega | (constructor <;> omega) | (refine ⟨?_, ?_, ?_⟩ <;> omega) | (rw [i64_iff]; constructor <;> omega)) | (simp [ha])) ?_
     refine g_need (by first | omega | (have hb := (s[i]!).toNat_lt; have hL := lenL1; first | omega | (constructor <;> omega) | (refine ⟨?_, ?_, ?_⟩ <;> omega) | (rw [i64_iff]; constructor <;> omega)) | (rw [i64_iff]; constructor <;> omega) | (have q : fs ≤ i ∧ na < n := (by rcases Decidable.em (fs ≤ i ∧ na < n) with q | q; exact q; rw [if_pos (by omega), if_neg (show ¬ spA s i = 0 from h1), if_neg q] at hm; cases hm); first | omega | (constructor <;> omega) | (refine ⟨?_, ?_, ?_⟩ <;> omega) | (rw [i64_iff]; constructor <;> omega)) | (have q : na < n := (by rcases Decidable.em (na < n) with q | q; exact q; rw [if_neg (by omega), if_pos (by omega), if_neg q] at hm; cases hm); first | omega | (constructor <;> omega) | (refine ⟨?_, ?_, ?_⟩ <;> omega) | (rw [i64_iff]; constructor <;> omega)) | (simp [ha])) ?_
     refine g_need (by first | omega | (have hb := (s[i]!).toNat_lt; have hL := lenL1; first | omega | (constructor <;> omega) | (refine ⟨?_, ?_, ?_⟩ <;> omega) | (rw [i64_iff]; constructor <;> omega)) | (rw [i64_iff]; constructor <;> omega) | (have q : fs ≤ i ∧ na < n := (by rcases Decidable.em (fs ≤ i ∧ na < n) with q | q; exact q; rw [if_pos (by omega), if_neg (show ¬ spA s i = 0 from h1), if_neg q] at hm; cases hm); first | omega | (constructor <;> omega) | (refine ⟨?_, ?_, ?_⟩ <;> omega) | (rw [i64_iff]; constructor <;> omega)) | (have q : na < n := (by rcases Decidable.em (na < n) with q | q; exact q; rw [if_neg (by omega), if_pos (by omega), if_neg q] at hm; cases hm); first | omega | (constructor <;> omega) | (refine ⟨?_, ?_, ?_⟩ <;> omega) | (rw [i64_iff]; constructor <;> omega)) | (simp [ha])) ?_
     refine g_need (by first | omega | (have hb := (s[i]!).toNat_lt; have hL := lenL1; first | omega | (constructor <;> omega) | (refine ⟨?_, ?_, ?_⟩ <;> omega) | (rw [i64_iff]; constructor <;> omega)) | (rw [i64_iff]; constructor <;> omega) | (have q : fs ≤ i ∧ na < n := (by rcases Decidable.em (fs ≤ i ∧ na < n) with q | q; exact q; rw [if_pos (by omega), if_neg (show ¬ spA s i = 0 from h1), if_neg q] at hm; cases hm); first | omega | (constructor <;> omega) | (refine ⟨?_, ?_, ?_⟩ <;> omega) | (rw [i64_iff]; constructor <;> omega)) | (have q : na < n := (by rcases Decidable.em (na < n) with q | q; exact q; rw [if_neg (by omega), if_pos (by omega), if_neg q] at hm; cases hm); first | omega | (constructor <;> omega) | (refine ⟨?_, ?_, ?_⟩ <;> omega) | (rw [i64_iff]; constructor <;> omega)) | (simp [ha])) ?_
     refine g_need (by first | omega | (have hb := (s[i]!).toNat_lt; have hL := lenL1; first | omega | (constructor <;> omega) | (refine ⟨?_, ?_, ?_⟩ <;> omega) | (rw [i64_iff]; constructor <;> omega)) | (rw [i64_iff]; constructor <;> omega) | (have q : fs ≤ i ∧ na < n := (by rcases Decidable.em (fs ≤ i ∧ na < n) with q | q; exact q; rw [if_pos (by omega), if_neg (show ¬ spA s i = 0 from h1), if_neg q] at hm; cases hm); first | omega | (constructor <;> omega) | (refine ⟨?_, ?_, ?_⟩ <;> omega) | (rw [i64_iff]; constructor <;> omega)) | (have q : na < n := (by rcases Decidable.em (na < n) with q | q; exact q; rw [if_neg (by omega), if_pos (by omega), if_neg q] at hm; cases hm); first | omega | (constructor <;> omega) | (refine ⟨?_, ?_, ?_⟩ <;> omega) | (rw [i64_iff]; constructor <;> omega)) | (simp [ha])) ?_
     refine g_stop (RunN.keep [0] (true :: F8 (true :: true :: false :: true :: F32 (F32 (F16 (F8 (F4 (false :: []))))))) n0 (by decide) rfl rfl ?_)
     have q : fs ≤ i ∧ na < n := (by rcases Decidable.em (fs ≤ i ∧ na < n) with q | q; exact q; rw [if_pos (by omega), if_neg (show ¬ spA s i = 0 from h1), if_neg q] at hm; cases hm); rw [if_pos (by omega), if_neg (show ¬ spA s i = 0 from h1), if_pos q] at hm; rw [Nat.zero_add]; exact ih.2 n (a.set na (s.extract fs i)) (na + 1) 0 (i + 1) (by simpa using ha) hn hm
   ·refine g_iteD (fun h1 => ?_) (fun h1 => ?_)
    ·refine g_need (by first | omega | (have hb := (s[i]!).toNat_lt; have hL := lenL1; first | omega | (constructor <;> omega) | (refine ⟨?_, ?_, ?_⟩ <;> omega) | (rw [i64_iff]; constructor <;> omega)) | (rw [i64_iff]; constructor <;> omega) | (have q : fs ≤ i ∧ na < n := (by rcases Decidable.em (fs ≤ i ∧ na < n) with q | q; exact q; rw [if_pos (by omega), if_neg (show ¬ spA s i = 0 from h1), if_neg q] at hm; cases hm); first | omega | (constructor <;> omega) | (refine ⟨?_, ?_, ?_⟩ <;> omega) | (rw [i64_iff]; constructor <;> omega)) | (have q : na < n := (by rcases Decidable.em (na < n) with q | q; exact q; rw [if_neg (by omega), if_pos (by omega), if_neg q] at hm; cases hm); first | omega | (constructor <;> omega) | (refine ⟨?_, ?_, ?_⟩ <;> omega) | (rw [i64_iff]; constructor <;> omega)) | (simp [ha])) ?_
     refine g_need (by first | omega | (have hb := (s[i]!).toNat_lt; have hL := lenL1; first | omega | (constructor <;> omega) | (refine ⟨?_, ?_, ?_⟩ <;> omega) | (rw [i64_iff]; constructor <;> omega)) | (rw [i64_iff]; constructor <;> omega) | (have q : fs ≤ i ∧ na < n := (by rcases Decidable.em (fs ≤ i ∧ na < n) with q | q; exact q; rw [if_pos (by omega), if_neg (show ¬ spA s i = 0 from h1), if_neg q] at hm; cases hm); first | omega | (constructor <;> omega) | (refine ⟨?_, ?_, ?_⟩ <;> omega) | (rw [i64_iff]; constructor <;> omega)) | (have q : na < n := (by rcases Decidable.em (na < n) with q | q; exact q; rw [if_neg (by omega), if_pos (by omega), if_neg q] at hm; cases hm); first | omega | (constructor <;> omega) | (refine ⟨?_, ?_, ?_⟩ <;> omega) | (rw [i64_iff]; constructor <;> omega)) | (simp [ha])) ?_
     refine g_need (by first | omega | (have hb := (s[i]!).toNat_lt; have hL := lenL1; first | omega | (constructor <;> omega) | (refine ⟨?_, ?_, ?_⟩ <;> omega) | (rw [i64_iff]; constructor <;> omega)) | (rw [i64_iff]; constructor <;> omega) | (have q : fs ≤ i ∧ na < n := (by rcases Decidable.em (fs ≤ i ∧ na < n) with q | q; exact q; rw [if_pos (by omega), if_neg (show ¬ spA s i = 0 from h1), if_neg q] at hm; cases hm); first | omega | (constructor <;> omega) | (refine ⟨?_, ?_, ?_⟩ <;> omega) | (rw [i64_iff]; constructor <;> omega)) | (have q : na < n := (by rcases Decidable.em (na < n) with q | q; exact q; rw [if_neg (by omega), if_pos (by omega), if_neg q] at hm; cases hm); first | omega | (constructor <;> omega) | (refine ⟨?_, ?_, ?_⟩ <;> omega) | (rw [i64_iff]; constructor <;> omega)) | (simp [ha])) ?_
     exact g_rs rfl (by first | omega | (have hb := (s[i]!).toNat_lt; have hL := lenL1; first | omega | (constructor <;> omega) | (refine ⟨?_, ?_, ?_⟩ <;> omega) | (rw [i64_iff]; constructor <;> omega)) | (rw [i64_iff]; constructor <;> omega) | (have q : fs ≤ i ∧ na < n := (by rcases Decidable.em (fs ≤ i ∧ na < n) with q | q; exact q; rw [if_pos (by omega), if_neg (show ¬ spA s i = 0 from h1), if_neg q] at hm; cases hm); first | omega | (constructor <;> omega) | (refine ⟨?_, ?_, ?_⟩ <;> omega) | (rw [i64_iff]; constructor <;> omega)) | (have q : na < n := (by rcases Decidable.em (na < n) with q | q; exact q; rw [if_neg (by omega), if_pos (by omega), if_neg q] at hm; cases hm); first | omega | (constructor <;> omega) | (refine ⟨?_, ?_, ?_⟩ <;> omega) | (rw [i64_iff]; constructor <;> omega)) | (simp [ha])) (by (try rw [Nat.zero_add]); first | (have q : na < n := (by rcases Decidable.em (na < n) with q | q; exact q; rw [if_neg (by omega), if_pos (by omega), if_neg q] at hm; cases hm); rw [if_neg (by omega), if_pos (by omega), if_pos q] at hm; injection hm) | (rw [if_neg (by omega), if_neg (by omega)] at hm; injection hm))
    ·exact g_rs rfl (by first | omega | (have hb := (s[i]!).toNat_lt; have hL := lenL1; first | omega | (constructor <;> omega) | (refine ⟨?_, ?_, ?_⟩ <;> omega) | (rw [i64_iff]; constructor <;> omega)) | (rw [i64_iff]; constructor <;> omega) | (have q : fs ≤ i ∧ na < n := (by rcases Decidable.em (fs ≤ i ∧ na < n) with q | q; exact q; rw [if_pos (by omega), if_neg (show ¬ spA s i = 0 from h1), if_neg q] at hm; cases hm); first | omega | (constructor <;> omega) | (refine ⟨?_, ?_, ?_⟩ <;> omega) | (rw [i64_iff]; constructor <;> omega)) | (have q : na < n := (by rcases Decidable.em (na < n) with q | q; exact q; rw [if_neg (by omega), if_pos (by omega), if_neg q] at hm; cases hm); first | omega | (constructor <;> omega) | (refine ⟨?_, ?_, ?_⟩ <;> omega) | (rw [i64_iff]; constructor <;> omega)) | (simp [ha])) (by (try rw [Nat.zero_add]); first | (have q : na < n := (by rcases Decidable.em (na < n) with q | q; exact q; rw [if_neg (by omega), if_pos (by omega), if_neg q] at hm; cases hm); rw [if_neg (by omega), if_pos (by omega), if_pos q] at hm; injection hm) | (rw [if_neg (by omega), if_neg (by omega)] at hm; injection hm))
  ·unfold wF at hm
   refine Run.roundA oc0 fields_lv 3000 Tryd.func142 mixed (fields_l3_R s n a na i) (fields_l3_R_ok s n a na i) ?_
   unfold fields_l3_R
   refine g_iteD (fun h0 => ?_) (fun h0 => ?_)
   ·refine g_need (by first | omega | (have hb := (s[i]!).toNat_lt; have hL := lenL1; first | omega | (constructor <;> omega) | (refine ⟨?_, ?_, ?_⟩ <;> omega) | (rw [i64_iff]; constructor <;> omega)) | (rw [i64_iff]; constructor <;> omega) | (have q : fs ≤ i ∧ na < n := (by rcases Decidable.em (fs ≤ i ∧ na < n) with q | q; exact q; rw [if_pos (by omega), if_neg (show ¬ spA s i = 0 from h1), if_neg q] at hm; cases hm); first | omega | (constructor <;> omega) | (refine ⟨?_, ?_, ?_⟩ <;> omega) | (rw [i64_iff]; constructor <;> omega)) | (have q : na < n := (by rcases Decidable.em (na < n) with q | q; exact q; rw [if_neg (by omega), if_pos (by omega), if_neg q] at hm; cases hm); first | omega | (constructor <;> omega) | (refine ⟨?_, ?_, ?_⟩ <;> omega) | (rw [i64_iff]; constructor <;> omega)) | (simp [ha])) ?_
    refine g_need (by first | omega | (have hb := (s[i]!).toNat_lt; have hL := lenL1; first | omega | (constructor <;> omega) | (refine ⟨?_, ?_, ?_⟩ <;> omega) | (rw [i64_iff]; constructor <;> omega)) | (rw [i64_iff]; constructor <;> omega) | (have q : fs ≤ i ∧ na < n := (by rcases Decidable.em (fs ≤ i ∧ na < n) with q | q; exact q; rw [if_pos (by omega), if_neg (show ¬ spA s i = 0 from h1), if_neg q] at hm; cases hm); first | omega | (constructor <;> omega) | (refine ⟨?_, ?_, ?_⟩ <;> omega) | (rw [i64_iff]; constructor <;> omega)) | (have q : na < n := (by rcases Decidable.em (na < n) with q | q; exact q; rw [if_neg (by omega), if_pos (by omega), if_neg q] at hm; cases hm); first | omega | (constructor <;> omega) | (refine ⟨?_, ?_, ?_⟩ <;> omega) | (rw [i64_iff]; constructor <;> omega)) | (simp [ha])) ?_
    refine g_need (by first | omega | (have hb := (s[i]!).toNat_lt; have hL := lenL1; first | omega | (constructor <;> omega) | (refine ⟨?_, ?_, ?_⟩ <;> omega) | (rw [i64_iff]; constructor <;> omega)) | (rw [i64_iff]; constructor <;> omega) | (have q : fs ≤ i ∧ na < n := (by rcases Decidable.em (fs ≤ i ∧ na < n) with q | q; exact q; rw [if_pos (by omega), if_neg (show ¬ spA s i = 0 from h1), if_neg q] at hm; cases hm); first | omega | (constructor <;> omega) | (refine ⟨?_, ?_, ?_⟩ <;> omega) | (rw [i64_iff]; constructor <;> omega)) | (have q : na < n := (by rcases Decidable.em (na < n) with q | q; exact q; rw [if_neg (by omega), if_pos (by omega), if_neg q] at hm; cases hm); first | omega | (constructor <;> omega) | (refine ⟨?_, ?_, ?_⟩ <;> omega) | (rw [i64_iff]; constructor <;> omega)) | (simp [ha])) ?_
    refine g_iteND (fun h1 => ?_) (fun h1 => ?_)
    ·refine g_need (by first | omega | (have hb := (s[i]!).toNat_lt; have hL := lenL1; first | omega | (constructor <;> omega) | (refine ⟨?_, ?_, ?_⟩ <;> omega) | (rw [i64_iff]; constructor <;> omega)) | (rw [i64_iff]; constructor <;> omega) | (have q : fs ≤ i ∧ na < n := (by rcases Decidable.em (fs ≤ i ∧ na < n) with q | q; exact q; rw [if_pos (by omega), if_neg (show ¬ spA s i = 0 from h1), if_neg q] at hm; cases hm); first | omega | (constructor <;> omega) | (refine ⟨?_, ?_, ?_⟩ <;> omega) | (rw [i64_iff]; constructor <;> omega)) | (have q : na < n := (by rcases Decidable.em (na < n) with q | q; exact q; rw [if_neg (by omega), if_pos (by omega), if_neg q] at hm; cases hm); first | omega | (constructor <;> omega) | (refine ⟨?_, ?_, ?_⟩ <;> omega) | (rw [i64_iff]; constructor <;> omega)) | (simp [ha])) ?_
     refine g_stop (RunN.keep [0] (true :: F8 (true :: true :: false :: true :: F32 (F32 (F16 (F8 (F4 (false :: []))))))) n0 (by decide) rfl rfl ?_)
     rw [if_pos (by omega), if_neg (show ¬ spA s i = 0 from h1)] at hm; exact ih.2 n a na 0 (i + 1) ha hn hm
    ·refine g_stop (RunN.keep [0] (true :: F8 (true :: true :: true :: true :: F32 (F32 (F16 (F8 (F4 (false :: []))))))) n0 (by decide) rfl rfl ?_)
     first | (rw [if_neg (by omega)] at hm; exact ih.1 n a na i i ha hn hm) | (rw [if_pos (by omega), if_pos (show spA s i = 0 from h1)] at hm; exact ih.1 n a na i i ha hn hm)
   ·refine g_stop (RunN.keep [0] (true :: F8 (true :: true :: true :: true :: F32 (F32 (F16 (F8 (F4 (false :: []))))))) n0 (by decide) rfl rfl ?_)
    first | (rw [if_neg (by omega)] at hm; exact ih.1 n a na i i ha hn hm) | (rw [if_pos (by omega), if_pos (show spA s i = 0 from h1)] at hm; exact ih.1 n a na i i ha hn hm)
theorem fields_w1 (s : ByteArray) (W : List ByteArray) (hs : s.size ≤ 1000) : ∀ (f : Nat) (n : Nat) (a : List ByteArray) (i : Nat), a.length = n → n ≤ 1000 → w1F s n f i a = some W → Run Tryd.prog 142 (retQ Tryd.prog (.c (.ro .str W))) (lp (bodyOf Tryd.f142) 1) (.c (.str s) :: J8 (.c (.sl 0 1 0 n) :: .c (.int .i64 0) :: .junk :: .c (.int .i64 ((i : Nat) : Int)) :: J32 (J32 (J16 (J8 (J4 (.junk :: []))))))) [.vec 9 .str a] := by
 intro f
 induction f with
 | zero => exact fun n a i _ _ h => absurd h (by simp [w1F])
 | succ f ih =>
  intro n a i ha hn hm
  unfold w1F at hm
  refine Run.roundA oc0 fields_lv 3000 Tryd.func142 mixed (fields_l1_R s n a i) (fields_l1_R_ok s n a i) ?_
  unfold fields_l1_R
  refine g_iteD (fun h0 => ?_) (fun h0 => ?_)
  ·refine g_need (by first | omega | (have hb := (s[i]!).toNat_lt; have hL := lenL1; first | omega | (constructor <;> omega) | (refine ⟨?_, ?_, ?_⟩ <;> omega) | (rw [i64_iff]; constructor <;> omega)) | (rw [i64_iff]; constructor <;> omega)) ?_
   refine g_need (by first | omega | (have hb := (s[i]!).toNat_lt; have hL := lenL1; first | omega | (constructor <;> omega) | (refine ⟨?_, ?_, ?_⟩ <;> omega) | (rw [i64_iff]; constructor <;> omega)) | (rw [i64_iff]; constructor <;> omega)) ?_
   refine g_need (by first | omega | (have hb := (s[i]!).toNat_lt; have hL := lenL1; first | omega | (constructor <;> omega) | (refine ⟨?_, ?_, ?_⟩ <;> omega) | (rw [i64_iff]; constructor <;> omega)) | (rw [i64_iff]; constructor <;> omega)) ?_
   refine g_iteND (fun h1 => ?_) (fun h1 => ?_)
   ·refine g_need (by first | omega | (have hb := (s[i]!).toNat_lt; have hL := lenL1; first | omega | (constructor <;> omega) | (refine ⟨?_, ?_, ?_⟩ <;> omega) | (rw [i64_iff]; constructor <;> omega)) | (rw [i64_iff]; constructor <;> omega)) ?_
    refine g_stop (RunN.keep [0] (true :: F8 (true :: true :: false :: true :: F32 (F32 (F16 (F8 (F4 (false :: []))))))) n0 (by decide) rfl rfl ?_)
    rw [if_pos (by omega), if_neg (show ¬ spA s i = 0 from h1)] at hm; exact ih n a (i + 1) ha hn hm
   ·refine g_stop (RunN.keep [0] (true :: F8 (true :: true :: true :: true :: F32 (F32 (F16 (F8 (F4 (false :: []))))))) n0 (by decide) rfl rfl ?_)
    first | (rw [if_neg (by omega)] at hm; exact (fields_w s W hs f).1 n a 0 i i ha hn hm) | (rw [if_pos (by omega), if_pos (show spA s i = 0 from h1)] at hm; exact (fields_w s W hs f).1 n a 0 i i ha hn hm)
  ·refine g_stop (RunN.keep [0] (true :: F8 (true :: true :: true :: true :: F32 (F32 (F16 (F8 (F4 (false :: []))))))) n0 (by decide) rfl rfl ?_)
   first | (rw [if_neg (by omega)] at hm; exact (fields_w s W hs f).1 n a 0 i i ha hn hm) | (rw [if_pos (by omega), if_pos (show spA s i = 0 from h1)] at hm; exact (fields_w s W hs f).1 n a 0 i i ha hn hm)
theorem fields_14 (s : ByteArray) (N : Int) (W : List ByteArray) (f : Nat) (hs : s.size ≤ 1000) (hN : 0 ≤ N ∧ N ≤ 1000) (hm : w1F s N.toNat f 0 (List.replicate N.toNat ByteArray.empty) = some W) : Run Tryd.prog 142 (retQ Tryd.prog (.c (.ro .str W))) (rg (bodyOf Tryd.f142) 14) (.c (.str s) :: J2 (.c (.int .i64 N) :: J32 (J32 (J32 (J4 (J2 ([]))))))) [] := by
 refine Run.roundA oc0 fields_lv 3000 Tryd.func142 mixed (fields_r14_R s N) (fields_r14_R_ok s N) ?_
 unfold fields_r14_R
 refine g_need (by refine ⟨by omega, by omega, by omega, by omega⟩) ?_
 refine g_stop (RunN.keep [0] (true :: F8 (true :: true :: false :: true :: F32 (F32 (F16 (F8 (F4 (false :: []))))))) n0 (by decide) rfl rfl ?_)
 exact fields_w1 s W hs f N.toNat _ 0 (by simp) (by omega) hm
theorem fields_m (s : ByteArray) (N : Int) (W : List ByteArray) (hs : s.size ≤ 1000) (h14 : Run Tryd.prog 142 (retQ Tryd.prog (.c (.ro .str W))) (rg (bodyOf Tryd.f142) 14) (.c (.str s) :: J2 (.c (.int .i64 N) :: J32 (J32 (J32 (J4 (J2 ([]))))))) []) : ∀ (f : Nat) (n was bits : Int) (i : Nat), m0 s f n was bits i = some N → Run Tryd.prog 142 (retQ Tryd.prog (.c (.ro .str W))) (lp (bodyOf Tryd.f142) 0) (.c (.str s) :: J2 (.c (.int .i64 n) :: .c (.int .i64 was) :: .c (.int .u8 bits) :: .c (.int .i64 ((i : Nat) : Int)) :: J32 (J32 (J32 (J2 (.junk :: [])))))) [] := by
 intro f
 induction f with
 | zero => exact fun n was bits i h => absurd h (by simp [m0])
 | succ f ih =>
  intro n was bits i hm
  unfold m0 at hm
  refine Run.roundA oc0 fields_lv 3000 Tryd.func142 mixed (fields_l0_R s n was bits i) (fields_l0_R_ok s n was bits i) ?_
  unfold fields_l0_R
  refine g_iteD (fun h0 => ?_) (fun h0 => ?_)
  ·refine g_need (by first | omega | (have hb := (s[i]!).toNat_lt; have hL := lenL1; first | omega | (constructor <;> omega) | (refine ⟨?_, ?_, ?_⟩ <;> omega) | (rw [i64_iff]; constructor <;> omega)) | (rw [i64_iff]; constructor <;> omega) | (rw [if_pos (by omega)] at hm; split at hm; assumption; cases hm)) ?_
   refine g_need (by first | omega | (have hb := (s[i]!).toNat_lt; have hL := lenL1; first | omega | (constructor <;> omega) | (refine ⟨?_, ?_, ?_⟩ <;> omega) | (rw [i64_iff]; constructor <;> omega)) | (rw [i64_iff]; constructor <;> omega) | (rw [if_pos (by omega)] at hm; split at hm; assumption; cases hm)) ?_
   refine g_need (by first | omega | (have hb := (s[i]!).toNat_lt; have hL := lenL1; first | omega | (constructor <;> omega) | (refine ⟨?_, ?_, ?_⟩ <;> omega) | (rw [i64_iff]; constructor <;> omega)) | (rw [i64_iff]; constructor <;> omega) | (rw [if_pos (by omega)] at hm; split at hm; assumption; cases hm)) ?_
   refine g_need (by first | omega | (have hb := (s[i]!).toNat_lt; have hL := lenL1; first | omega | (constructor <;> omega) | (refine ⟨?_, ?_, ?_⟩ <;> omega) | (rw [i64_iff]; constructor <;> omega)) | (rw [i64_iff]; constructor <;> omega) | (rw [if_pos (by omega)] at hm; split at hm; assumption; cases hm)) ?_
   refine g_need (by first | omega | (have hb := (s[i]!).toNat_lt; have hL := lenL1; first | omega | (constructor <;> omega) | (refine ⟨?_, ?_, ?_⟩ <;> omega) | (rw [i64_iff]; constructor <;> omega)) | (rw [i64_iff]; constructor <;> omega) | (rw [if_pos (by omega)] at hm; split at hm; assumption; cases hm)) ?_
   refine g_stop (RunN.keep [] (true :: F2 (true :: true :: true :: true :: F32 (F32 (F32 (F2 (false :: [])))))) n0 (by decide) rfl rfl ?_)
   rw [if_pos (by omega)] at hm; split at hm; exact ih _ _ _ _ hm; cases hm
  ·refine g_iteD (fun h1 => ?_) (fun h1 => ?_)
   ·refine g_stop (RunN.keep [] (true :: F32 (F32 (F32 (F8 (false :: []))))) n0 (by decide) rfl rfl ?_)
    exfalso; rw [if_neg (by omega), if_pos (by assumption)] at hm; cases hm
   ·refine g_stop (RunN.keep [] (true :: F2 (true :: F32 (F32 (F32 (F4 (F2 ([]))))))) n0 (by decide) rfl rfl ?_)
    rw [if_neg (by omega), if_neg (by assumption)] at hm; split at hm; injection hm with hm; subst hm; exact h14; cases hm
theorem fields_fun (s : ByteArray) (N : Int) (W : List ByteArray) (f1 f2 : Nat) (hs : s.size ≤ 1000) (hN : 0 ≤ N ∧ N ≤ 1000) (hm : m0 s f1 0 1 0 0 = some N) (hw : w1F s N.toNat f2 0 (List.replicate N.toNat ByteArray.empty) = some W) : AFun Tryd.prog 142 [.c (.str s)] (.c (.ro .str (W))) :=
 AFun.of oc0 fields_lv 3000 Tryd.func142 mixed rfl (by decide) (Nat.le_of_ble_eq_true rfl) _ (fields_T_ok s) fun hF => by
  unfold fields_T
  refine g_stop (RunN.keep [] (true :: F2 (true :: true :: true :: true :: F32 (F32 (F32 (F2 (false :: [])))))) n0 (by decide) rfl rfl ?_)
  exact fields_m s N W hs (fields_14 s N W f2 hs hN hw) f1 0 1 0 0 hm

end Go.Proofs.YtefkifdhjabdiaaDoor
namespace Go.Proofs.YtefkifdhjabdiaaDoor
set_option linter.unusedVariables false
set_option linter.unusedSimpArgs false
set_option maxRecDepth 100000
theorem words_m : m0 wordsC 300 0 1 0 0 = some 19 := by kernel_rfl
noncomputable def wordsL : List ByteArray := (w1F wordsC 19 300 0 (List.replicate 19 ByteArray.empty)).getD []
theorem words_some : (w1F wordsC 19 300 0 (List.replicate 19 ByteArray.empty)).isSome = true := by kernel_rfl
theorem words_w : w1F wordsC (Int.toNat 19) 300 0 (List.replicate (Int.toNat 19) ByteArray.empty) = some wordsL := by
 show w1F wordsC 19 300 0 (List.replicate 19 ByteArray.empty) = some wordsL
 unfold wordsL
 have h := words_some
 cases hq : w1F wordsC 19 300 0 (List.replicate 19 ByteArray.empty) with
 | none => rw [hq] at h; cases h
 | some l => rfl
theorem words_size : wordsC.size ≤ 1000 := by decide
noncomputable def oc15 : Orc where
 pure := fun f args => match f, args with
  | 142, [a0] => match dA .str a0 with
   | some x0 => some (.c (.ro .str (wordsL)))
   | _ => none
  | _, _ => none
 heap := fun _ _ _ => none
def words_lv : LV := ⟨([]), []⟩
noncomputable def words_T  : Tree :=
 .call 142 [.c (.str wordsC)] false (.c (.ro .str wordsL)) <|
 .ret (.c (.ro .str wordsL)) []
theorem words_T_ok  : aRun Tryd.prog oc15 Tryd.f116 words_lv 3000 [.code (bodyOf Tryd.f116)] ([] ++ List.replicate (Func.ntmps Tryd.f116 - 0) .junk) [] = words_T  := by kernel_rfl
theorem words_fun  : AFun Tryd.prog 116 [] (.c (.ro .str (wordsL))) :=
 AFun.of oc15 words_lv 3000 Tryd.func116 mixed rfl (by decide) (Nat.le_of_ble_eq_true rfl) _ (words_T_ok ) fun hF => by
  unfold words_T
  refine g_call (fields_fun _ 19 _ 300 300 words_size (by decide) words_m words_w) (fun h => nomatch h) ?_
  exact g_rt rfl rfl (by simp [leAV, leA1, leC])

theorem drop_eqL {α : Type} [DecidableEq α] {a b : List α} {i : Nat} (d : α) (hl : a.length = b.length) (hi : i < a.length) : (a.drop i = b.drop i) ↔ (a.getD i d = b.getD i d ∧ a.drop (i + 1) = b.drop (i + 1)) := by
 rw [dropCons (l := a) d hi, dropCons (l := b) d (by omega), List.cons.injEq]
def eqS_lv : LV := ⟨(true :: true :: F8 (F2 (true :: true :: F8 (F4 ([]))))), []⟩
noncomputable def eqS_T (a : List ByteArray) (b : List ByteArray) : Tree :=
 .ite ((!(decide ((a.length : Int) = (b.length : Int)))))
 (.ret (.c (.lit false)) [])
 (.stop (lp (bodyOf Tryd.f117) 0) (.c (.ro .str a) :: .c (.ro .str b) :: J8 (J2 (.c (.int .i64 (a.length : Int)) :: .c (.int .i64 0) :: J8 (J4 ([]))))) [])
theorem eqS_T_ok (a : List ByteArray) (b : List ByteArray) : aRun Tryd.prog oc0 Tryd.f117 eqS_lv 3000 [.code (bodyOf Tryd.f117)] ([.c (.ro .str a), .c (.ro .str b)] ++ List.replicate (Func.ntmps Tryd.f117 - 2) .junk) [] = eqS_T a b := by kernel_rfl
noncomputable def eqS_l0_R (a : List ByteArray) (b : List ByteArray) (i : Nat) : Tree :=
 .ite (decide (((i : Nat) : Int) < (a.length : Int)))
 (.need ((0 : Int) ≤ ((i : Nat) : Int) ∧ (((i : Nat) : Int) : Int) < (a.length : Int)) <|
  .need (i < a.length) <|
  .need ((0 : Int) ≤ ((i : Nat) : Int) ∧ (((i : Nat) : Int) : Int) < (b.length : Int)) <|
  .need (i < b.length) <|
  .ite ((!(decide ((a.getD i (.str : Ty).dflt) = (b.getD i (.str : Ty).dflt)))))
  (.ret (.c (.lit false)) [])
  (.need (inR .i64 (((i : Nat) : Int) + 1)) <|
  .stop (lp (bodyOf Tryd.f117) 0) (.c (.ro .str a) :: .c (.ro .str b) :: J8 (J2 (.c (.int .i64 (a.length : Int)) :: .c (.int .i64 (((i : Nat) : Int) + 1)) :: J8 (J4 ([]))))) []))
 (.ret (.c (.lit true)) [])
theorem eqS_l0_R_ok (a : List ByteArray) (b : List ByteArray) (i : Nat) : aRound Tryd.prog oc0 Tryd.f117 eqS_lv 3000 (lp (bodyOf Tryd.f117) 0) (.c (.ro .str a) :: .c (.ro .str b) :: J8 (J2 (.c (.int .i64 (a.length : Int)) :: .c (.int .i64 ((i : Nat) : Int)) :: J8 (J4 ([]))))) [] = eqS_l0_R a b i := by kernel_rfl
theorem eqS_l0 (a : List ByteArray) (b : List ByteArray) (i : Nat) (hl : a.length = b.length) (hb : a.length ≤ 9223372036854775807) : Run Tryd.prog 117 (retQ Tryd.prog (.c (.bool (decide (a.drop i = b.drop i))))) (lp (bodyOf Tryd.f117) 0) (.c (.ro .str a) :: .c (.ro .str b) :: J8 (J2 (.c (.int .i64 (a.length : Int)) :: .c (.int .i64 ((i : Nat) : Int)) :: J8 (J4 ([]))))) [] :=
 Run.roundA oc0 eqS_lv 3000 Tryd.func117 mixed (eqS_l0_R a b i) (eqS_l0_R_ok a b i) (by
  unfold eqS_l0_R
  refine g_iteD (fun h0 => ?_) (fun h0 => ?_)
  ·refine g_need (by omega) ?_
   refine g_need (by omega) ?_
   refine g_need (by omega) ?_
   refine g_need (by omega) ?_
   refine g_iteND (fun h1 => ?_) (fun h1 => ?_)
   ·exact g_retl (by first | (rw [List.drop_eq_nil_of_le (by omega), List.drop_eq_nil_of_le (by omega)]; rfl) | (symm; rw [decide_eq_false_iff_not, drop_eqL (Ty.dflt .str) hl (by omega)]; exact fun q => h1 q.1))
   ·refine g_need (i64_iff.2 (by omega)) ?_
    refine g_stop (RunN.keep [] (true :: true :: F8 (F2 (true :: true :: F8 (F4 ([]))))) n0 (by decide) rfl rfl ?_)
    have := eqS_l0 a b (i + 1) hl hb; have e : decide (a.drop i = b.drop i) = decide (a.drop (i + 1) = b.drop (i + 1)) := (by rw [decide_eq_decide, drop_eqL (Ty.dflt .str) hl (by omega)]; exact ⟨fun q => q.2, fun q => ⟨h1, q⟩⟩); rw [e]; exact this
  ·exact g_retl (by first | (rw [List.drop_eq_nil_of_le (by omega), List.drop_eq_nil_of_le (by omega)]; rfl) | (symm; rw [decide_eq_false_iff_not, drop_eqL (Ty.dflt .str) hl (by omega)]; exact fun q => h1 q.1))
  )
 termination_by a.length - i
 decreasing_by all_goals omega
theorem eqS_fun (a : List ByteArray) (b : List ByteArray) : AFun Tryd.prog 117 [.c (.ro .str a), .c (.ro .str b)] (.c (.bool (decide (a = b)))) :=
 AFun.of oc0 eqS_lv 3000 Tryd.func117 mixed rfl (by decide) (Nat.le_of_ble_eq_true rfl) _ (eqS_T_ok a b) fun hF => by
  unfold eqS_T
  refine g_iteND (fun h0 => ?_) (fun h0 => ?_)
  ·exact g_retl (by symm; rw [decide_eq_false_iff_not]; intro q; exact h0 (by rw [q]))
  ·refine g_stop (RunN.keep [] (true :: true :: F8 (F2 (true :: true :: F8 (F4 ([]))))) n0 (by decide) rfl rfl ?_)
   have := eqS_l0 a b 0 (by omega) hF.ro.1.1; exact this

end Go.Proofs.YtefkifdhjabdiaaDoor
namespace Go.Proofs.YtefkifdhjabdiaaDoor
set_option linter.unusedVariables false
set_option linter.unusedSimpArgs false
set_option maxRecDepth 100000
theorem lawStr : MapLaw Tryd.prog 9 .str := ⟨Maps.string_keyed Tryd.underlying9, fun x hx => by
 have hx : x.size ≤ 9223372036854775807 := hx
 have hm : x.size ≤ maxLen := hx
 exact ⟨.string x.data.toList, by simp [keyOf, mapKey, plainV, plainCs, Ty.isPair, Tryd.underlying9]; exact hm⟩⟩
def oddV (p : EProg) (v : EVal) : Bool := if rightVF v = true then (if v.1 = 5 then true else if v.1 = 4 then decide ((p.2.2.length : Int) ≤ v.2) else false) else true
noncomputable def oc16 : Orc where
 pure := fun f args => match f, args with
  | 85, [a0] => match dA tVal a0 with
   | some x0 => some (.c (.bool (rightVF x0)))
   | _ => none
  | _, _ => none
 heap := fun _ _ _ => none
def oddv_lv : LV := ⟨([]), []⟩
noncomputable def oddv_T (v : EVal) (p : EProg) : Tree :=
 .call 85 [.agg (Ty.enc tVal v)] false (.c (.bool (rightVF v))) <|
 .ite ((!(rightVF v)))
 (.ret (.c (.lit true)) [.cells 39 (Ty.enc tProg p), .cells 44 (Ty.enc tVal v)])
 (.ite (decide (v.1 = 5))
  (.ret (.c (.lit true)) [.cells 39 (Ty.enc tProg p), .cells 44 (Ty.enc tVal v)])
  (.ite (decide (v.1 = 4))
  (.ret (.c (.bool (decide ((p.2.2.length : Int) ≤ v.2)))) [.cells 39 (Ty.enc tProg p), .cells 44 (Ty.enc tVal v)])
  (.ret (.c (.lit false)) [.cells 39 (Ty.enc tProg p), .cells 44 (Ty.enc tVal v)])))
theorem oddv_T_ok (v : EVal) (p : EProg) : aRun Tryd.prog oc16 Tryd.f119 oddv_lv 3000 [.code (bodyOf Tryd.f119)] ([.agg (Ty.enc tVal v), .c (.ptr 0 0 0 0)] ++ List.replicate (Func.ntmps Tryd.f119 - 2) .junk) [.cells 39 (Ty.enc tProg p)] = oddv_T v p := by kernel_rfl
theorem oddv_fun (v : EVal) (p : EProg) : AFunH Tryd.prog 119 [.agg (Ty.enc tVal v), .c (.ptr 0 0 0 0)] [.cells 39 (Ty.enc tProg p)] (.c (.bool (oddV p v))) [.cells 39 (Ty.enc tProg p)] (List.range 1) :=
 AFunH.of oc16 oddv_lv 3000 Tryd.func119 mixed rfl (by decide) (Nat.le_of_ble_eq_true rfl) rfl rfl (Nat.le_refl _) _ (oddv_T_ok v p) fun hF => by
  unfold oddv_T
  refine g_call (rightV_fun v) (fun h => nomatch h) ?_
  refine g_iteN (fun h0 => ?_) (fun h0 => ?_)
  ·exact g_rh [0] (show ∀ k, k < 1 → ([0] : List Nat)[k]? = some k by decide) (by decide) (by simp only [renA, ren1, renC, leAV, leA1, leC]; first | (simp only [oddV, h0, if_true, if_false, Bool.false_eq_true]; done) | (simp_all [oddV]; done)) rfl
  ·refine g_iteD (fun h1 => ?_) (fun h1 => ?_)
   ·exact g_rh [0] (show ∀ k, k < 1 → ([0] : List Nat)[k]? = some k by decide) (by decide) (by simp only [renA, ren1, renC, leAV, leA1, leC]; first | (simp only [oddV, h0, h1, if_true, if_false, Bool.false_eq_true]; done) | (simp_all [oddV]; done)) rfl
   ·refine g_iteD (fun h2 => ?_) (fun h2 => ?_)
    ·exact g_rh [0] (show ∀ k, k < 1 → ([0] : List Nat)[k]? = some k by decide) (by decide) (by simp only [renA, ren1, renC, leAV, leA1, leC]; first | (simp only [oddV, h0, h1, h2, if_true, if_false, Bool.false_eq_true]; done) | (simp_all [oddV]; done)) rfl
    ·exact g_rh [0] (show ∀ k, k < 1 → ([0] : List Nat)[k]? = some k by decide) (by decide) (by simp only [renA, ren1, renC, leAV, leA1, leC]; first | (simp only [oddV, h0, h1, h2, if_true, if_false, Bool.false_eq_true]; done) | (simp_all [oddV]; done)) rfl

def firstV (q : EVal → Bool) : Nat → List EVal → Int
 | _, [] => -1
 | i, f :: r => if q f = true then (i : Int) else firstV q (i + 1) r
theorem firstV_ge {q : EVal → Bool} : ∀ {l : List EVal} {i : Nat}, decide (0 ≤ firstV q i l) = l.any q
 | [], i => rfl
 | f :: r, i => by
  unfold firstV
  rw [List.any_cons]
  split
  ·rename_i h; rw [h]; simp
  ·rename_i h; rw [firstV_ge (l := r)]; simp only [Bool.not_eq_true] at h; rw [h]; rfl
noncomputable def oc17 : Orc where
 pure := fun f args => match f, args with
  | _, _ => none
 heap := fun f args H => match f, args with
  | 119, [a0, .one (.c (.ptr 0 0 0 0))] => match H with
   | [b0] => (match dA tVal a0, dB 39 tProg b0 with
    | some x0, some y0 => some (.c (.bool (oddV y0 x0)), [b0], List.range 1)
    | _, _ => none)
   | _ => none
  | _, _ => none
def idxV_lv : LV := ⟨(true :: true :: F4 (false :: true :: true :: F8 (F2 ([])))), []⟩
noncomputable def idxV_T (l : List EVal) (p : EProg) : Tree :=
 .stop (lp (bodyOf Tryd.f143) 0) (.c (.ro tVal l) :: .c (.fnc (.fn0 119) (.ptr 0 0 0 0)) :: J4 (.junk :: .c (.int .i64 (l.length : Int)) :: .c (.int .i64 0) :: J8 (J2 ([])))) [.cells 39 (Ty.enc tProg p)]
theorem idxV_T_ok (l : List EVal) (p : EProg) : aRun Tryd.prog oc17 Tryd.f143 idxV_lv 3000 [.code (bodyOf Tryd.f143)] ([.c (.ro tVal l), .c (.fnc (.fn0 119) (.ptr 0 0 0 0))] ++ List.replicate (Func.ntmps Tryd.f143 - 2) .junk) [.cells 39 (Ty.enc tProg p)] = idxV_T l p := by kernel_rfl
noncomputable def idxV_l0_R (l : List EVal) (p : EProg) (i : Nat) : Tree :=
 .ite (decide (((i : Nat) : Int) < (l.length : Int)))
 (.need ((0 : Int) ≤ ((i : Nat) : Int) ∧ (((i : Nat) : Int) : Int) < (l.length : Int)) <|
  .need (i < l.length) <|
  .callH 119 [.agg [.int .i64 (l.getD i tVal.dflt).1, .int .i64 (l.getD i tVal.dflt).2], .c (.ptr 0 0 0 0)] [.cells 39 (Ty.enc tProg p)] (.c (.bool (oddV p (l.getD i tVal.dflt)))) [.cells 39 (Ty.enc tProg p)] [0] <|
  .ite (oddV p (l.getD i tVal.dflt))
  (.ret (.c (.int .i64 ((i : Nat) : Int))) [.cells 39 (Ty.enc tProg p)])
  (.need (inR .i64 (((i : Nat) : Int) + 1)) <|
  .stop (lp (bodyOf Tryd.f143) 0) (.c (.ro tVal l) :: .c (.fnc (.fn0 119) (.ptr 0 0 0 0)) :: J4 (.junk :: .c (.int .i64 (l.length : Int)) :: .c (.int .i64 (((i : Nat) : Int) + 1)) :: J8 (J2 ([])))) [.cells 39 (Ty.enc tProg p)]))
 (.ret (.c (.int .i64 (-1))) [.cells 39 (Ty.enc tProg p)])
theorem idxV_l0_R_ok (l : List EVal) (p : EProg) (i : Nat) : aRound Tryd.prog oc17 Tryd.f143 idxV_lv 3000 (lp (bodyOf Tryd.f143) 0) (.c (.ro tVal l) :: .c (.fnc (.fn0 119) (.ptr 0 0 0 0)) :: J4 (.junk :: .c (.int .i64 (l.length : Int)) :: .c (.int .i64 ((i : Nat) : Int)) :: J8 (J2 ([])))) [.cells 39 (Ty.enc tProg p)] = idxV_l0_R l p i := by kernel_rfl
theorem idxV_l0 (l : List EVal) (p : EProg) (i : Nat) (hl : l.length ≤ 9223372036854775807) : RunN 1 Tryd.prog 143 (retH 1 (.c (.int .i64 (firstV (oddV p) i (l.drop i)))) [.cells 39 (Ty.enc tProg p)]) (lp (bodyOf Tryd.f143) 0) (.c (.ro tVal l) :: .c (.fnc (.fn0 119) (.ptr 0 0 0 0)) :: J4 (.junk :: .c (.int .i64 (l.length : Int)) :: .c (.int .i64 ((i : Nat) : Int)) :: J8 (J2 ([])))) [.cells 39 (Ty.enc tProg p)] :=
 Run.roundA oc17 idxV_lv 3000 Tryd.func143 mixed (idxV_l0_R l p i) (idxV_l0_R_ok l p i) (by
  unfold idxV_l0_R
  refine g_iteD (fun h0 => ?_) (fun h0 => ?_)
  ·refine g_need (by omega) ?_
   refine g_need (by omega) ?_
   refine g_callH (oddv_fun (l.getD i tVal.dflt) p) ?_
   refine g_ite (fun h1 => ?_) (fun h1 => ?_)
   ·exact g_rh [0] (show ∀ k, k < 1 → ([0] : List Nat)[k]? = some k by decide) (by decide) (by simp only [renA, ren1, renC, leAV, leA1, leC]; refine ⟨trivial, ?_⟩; first | (rw [dropCons (α := EVal) (Ty.dflt tVal) (by omega)]; simp only [firstV, h0, h1, if_true]; done) | (rw [List.drop_eq_nil_of_le (by omega)]; rfl)) rfl
   ·refine g_need (by first | rfl | exact ⟨rfl, lawStr⟩ | omega | (constructor <;> omega) | (rw [i64_iff]; omega) | (rw [i64_iff]; constructor <;> omega) | exact ⟨rfl, lawStr, by omega⟩) ?_
    refine g_stop (RunN.keep [0] (true :: true :: F4 (false :: true :: true :: F8 (F2 ([])))) (show ∀ k, k < 1 → ([0] : List Nat)[k]? = some k by decide) (by decide) rfl rfl ?_)
    have := idxV_l0 l p (i + 1) hl; rw [dropCons (α := EVal) (Ty.dflt tVal) (by omega)]; simp only [firstV, h0, h1, if_false, Bool.false_eq_true]; exact this
  ·exact g_rh [0] (show ∀ k, k < 1 → ([0] : List Nat)[k]? = some k by decide) (by decide) (by simp only [renA, ren1, renC, leAV, leA1, leC]; refine ⟨trivial, ?_⟩; first | (rw [dropCons (α := EVal) (Ty.dflt tVal) (by omega)]; simp only [firstV, h0, if_true]; done) | (rw [List.drop_eq_nil_of_le (by omega)]; rfl)) rfl
  )
 termination_by l.length - i
 decreasing_by all_goals omega
theorem idxV_fun (l : List EVal) (p : EProg) : AFunH Tryd.prog 143 [.c (.ro tVal l), .c (.fnc (.fn0 119) (.ptr 0 0 0 0))] [.cells 39 (Ty.enc tProg p)] (.c (.int .i64 (firstV (oddV p) 0 l))) [.cells 39 (Ty.enc tProg p)] (List.range 1) :=
 AFunH.of oc17 idxV_lv 3000 Tryd.func143 mixed rfl (by decide) (Nat.le_of_ble_eq_true rfl) rfl rfl (Nat.le_refl _) _ (idxV_T_ok l p) fun hF => by
  have hl : l.length ≤ 9223372036854775807 := (hF.ro (i := 0) rfl).1
  unfold idxV_T
  refine g_stop (RunN.keep [0] (true :: true :: F4 (false :: true :: true :: F8 (F2 ([])))) (show ∀ k, k < 1 → ([0] : List Nat)[k]? = some k by decide) (by decide) rfl rfl ?_)
  exact idxV_l0 l p 0 hl

noncomputable def oc18 : Orc where
 pure := fun f args => match f, args with
  | _, _ => none
 heap := fun f args H => match f, args with
  | 143, [a0, .one (.c (.fnc (.fn0 119) (.ptr 0 0 0 0)))] => match H with
   | [b0] => (match dA (.slice tVal) a0, dB 39 tProg b0 with
    | some x0, some y0 => some (.c (.int .i64 (firstV (oddV y0) 0 x0)), [b0], List.range 1)
    | _, _ => none)
   | _ => none
  | _, _ => none
def conV_lv : LV := ⟨([]), []⟩
noncomputable def conV_T (l : List EVal) (p : EProg) : Tree :=
 .callH 143 [.c (.ro tVal l), .c (.fnc (.fn0 119) (.ptr 0 0 0 0))] [.cells 39 (Ty.enc tProg p)] (.c (.int .i64 (firstV (oddV p) 0 l))) [.cells 39 (Ty.enc tProg p)] [0] <|
 .ret (.c (.bool (decide ((0 : Int) ≤ firstV (oddV p) 0 l)))) [.cells 39 (Ty.enc tProg p)]
theorem conV_T_ok (l : List EVal) (p : EProg) : aRun Tryd.prog oc18 Tryd.f118 conV_lv 3000 [.code (bodyOf Tryd.f118)] ([.c (.ro tVal l), .c (.fnc (.fn0 119) (.ptr 0 0 0 0))] ++ List.replicate (Func.ntmps Tryd.f118 - 2) .junk) [.cells 39 (Ty.enc tProg p)] = conV_T l p := by kernel_rfl
theorem conV_fun (l : List EVal) (p : EProg) : AFunH Tryd.prog 118 [.c (.ro tVal l), .c (.fnc (.fn0 119) (.ptr 0 0 0 0))] [.cells 39 (Ty.enc tProg p)] (.c (.bool (List.any l (oddV p)))) [.cells 39 (Ty.enc tProg p)] (List.range 1) :=
 AFunH.of oc18 conV_lv 3000 Tryd.func118 mixed rfl (by decide) (Nat.le_of_ble_eq_true rfl) rfl rfl (Nat.le_refl _) _ (conV_T_ok l p) fun hF => by
  unfold conV_T
  refine g_callH (idxV_fun l p) ?_
  exact g_rh [0] (show ∀ k, k < 1 → ([0] : List Nat)[k]? = some k by decide) (by decide) (by simp only [renA, ren1, renC, leAV, leA1, leC]; exact firstV_ge) rfl

noncomputable def oc19 : Orc where
 pure := fun f args => match f, args with
  | 116, [] => some (.c (.ro .str (wordsL)))
  | 117, [a0, a1] => match dA (.slice .str) a0, dA (.slice .str) a1 with
   | some x0, some x1 => some (.c (.bool (decide (x0 = x1))))
   | _, _ => none
  | _, _ => none
 heap := fun f args H => match f, args with
  | 118, [a0, .one (.c (.fnc (.fn0 119) (.ptr 0 0 0 0)))] => match H with
   | [b0] => (match dA (.slice tVal) a0, dB 39 tProg b0 with
    | some x0, some y0 => some (.c (.bool (List.any x0 (oddV y0))), [b0], List.range 1)
    | _, _ => none)
   | _ => none
  | _, _ => none
def onceF (p : EProg) : List ByteArray → (ByteArray → Option Int) → Bool
 | [], _ => !(List.any p.2.1 (oddV p))
 | t :: r, m => if (m t).getD 0 = 1 then false else onceF p r (updM (kt := .str) m t 1)
noncomputable def tablesF (p : EProg) : Bool := if (p.2.2.length : Int) < (wordsL.length : Int) then false else if p.2.2.take wordsL.length = wordsL then onceF p p.2.2 (fun _ => none) else false
def tables_lv : LV := ⟨(false :: true :: F2 (true :: F16 (F4 (false :: true :: true :: true :: F8 (F4 (F2 (false :: []))))))), [4, 12]⟩
noncomputable def tables_T (p : EProg) : Tree :=
 .call 116 [] false (.c (.ro .str wordsL)) <|
 .ite (decide ((p.2.2.length : Int) < (wordsL.length : Int)))
 (.ret (.c (.lit false)) [.cells 39 (Ty.enc tProg p)])
 (.need ((0 : Int) ≤ (wordsL.length : Int) ∧ ((wordsL.length : Int) : Int) ≤ (p.2.2.length : Int)) <|
  .call 117 [.c (.ro .str (p.2.2.take wordsL.length)), .c (.ro .str wordsL)] false (.c (.bool (decide ((p.2.2.take wordsL.length) = wordsL)))) <|
  .ite ((!(decide ((p.2.2.take wordsL.length) = wordsL))))
  (.ret (.c (.lit false)) [.cells 39 (Ty.enc tProg p)])
  (.stop (rg (bodyOf Tryd.f80) 4) (.junk :: .c (.ptr 0 0 0 0) :: J32 (J8 (J2 ([])))) [.cells 39 (Ty.enc tProg p)]))
theorem tables_T_ok (p : EProg) : aRun Tryd.prog oc19 Tryd.f80 tables_lv 3000 [.code (bodyOf Tryd.f80)] ([.agg (tProg.enc p)] ++ List.replicate (Func.ntmps Tryd.f80 - 1) .junk) [] = tables_T p := by kernel_rfl
noncomputable def tables_r12_R (p : EProg) : Tree :=
 .callH 118 [.c (.ro tVal p.2.1), .c (.fnc (.fn0 119) (.ptr 0 0 0 0))] [.cells 39 (Ty.enc tProg p)] (.c (.bool (List.any p.2.1 (oddV p)))) [.cells 39 (Ty.enc tProg p)] [0] <|
 .ret (.c (.bool (!(List.any p.2.1 (oddV p))))) [.cells 39 (Ty.enc tProg p)]
theorem tables_r12_R_ok (p : EProg) : aRound Tryd.prog oc19 Tryd.f80 tables_lv 3000 (rg (bodyOf Tryd.f80) 12) (.junk :: .c (.ptr 0 0 0 0) :: J32 (J8 (J2 ([])))) [.cells 39 (Ty.enc tProg p)] = tables_r12_R p := by kernel_rfl
noncomputable def tables_l0_R (p : EProg) (i : Nat) (n : Nat) (m : ByteArray → Option Int) : Tree :=
 .ite (decide (((i : Nat) : Int) < (p.2.2.length : Int)))
 (.need ((0 : Int) ≤ ((i : Nat) : Int) ∧ (((i : Nat) : Int) : Int) < (p.2.2.length : Int)) <|
  .need (i < p.2.2.length) <|
  .need (Tryd.prog = Tryd.prog ∧ MapLaw Tryd.prog 9 .str) <|
  .ite (decide (((m (p.2.2.getD i (.str : Ty).dflt)).getD 0) = 1))
  (.ret (.c (.lit false)) [.cells 39 (Ty.enc tProg p), .map 9 .str tI n m])
  (.need (Tryd.prog = Tryd.prog ∧ MapLaw Tryd.prog 9 .str ∧ n < 140737488355328) <|
  .need (inR .i64 (((i : Nat) : Int) + 1)) <|
  .stop (lp (bodyOf Tryd.f80) 0) (.junk :: .c (.ptr 0 0 0 0) :: J2 (.c (.map 1) :: J16 (J4 (.junk :: .c (.ro .str p.2.2) :: .c (.int .i64 (p.2.2.length : Int)) :: .c (.int .i64 (((i : Nat) : Int) + 1)) :: J8 (J4 (J2 (.junk :: []))))))) [.cells 39 (Ty.enc tProg p), .map 9 .str tI (n + 1) (updM (kt := .str) m (p.2.2.getD i (.str : Ty).dflt) (1 : Int))]))
 (.stop (rg (bodyOf Tryd.f80) 12) (.junk :: .c (.ptr 0 0 0 0) :: J2 (.c (.map 1) :: J16 (J4 (.junk :: .c (.ro .str p.2.2) :: .c (.int .i64 (p.2.2.length : Int)) :: .c (.int .i64 ((i : Nat) : Int)) :: J8 (J4 (J2 (.junk :: []))))))) [.cells 39 (Ty.enc tProg p), .map 9 .str tI n m])
theorem tables_l0_R_ok (p : EProg) (i : Nat) (n : Nat) (m : ByteArray → Option Int) : aRound Tryd.prog oc19 Tryd.f80 tables_lv 3000 (lp (bodyOf Tryd.f80) 0) (.junk :: .c (.ptr 0 0 0 0) :: J2 (.c (.map 1) :: J16 (J4 (.junk :: .c (.ro .str p.2.2) :: .c (.int .i64 (p.2.2.length : Int)) :: .c (.int .i64 ((i : Nat) : Int)) :: J8 (J4 (J2 (.junk :: []))))))) [.cells 39 (Ty.enc tProg p), .map 9 .str tI n m] = tables_l0_R p i n m := by kernel_rfl
noncomputable def tables_r4_R (p : EProg) : Tree :=
 .need (Tryd.prog = Tryd.prog) <|
 .stop (lp (bodyOf Tryd.f80) 0) (.junk :: .c (.ptr 0 0 0 0) :: J2 (.c (.map 1) :: J16 (J4 (.junk :: .c (.ro .str p.2.2) :: .c (.int .i64 (p.2.2.length : Int)) :: .c (.int .i64 0) :: J8 (J4 (J2 (.junk :: []))))))) [.cells 39 (Ty.enc tProg p), .map 9 .str tI 0 (fun _ => none)]
theorem tables_r4_R_ok (p : EProg) : aRound Tryd.prog oc19 Tryd.f80 tables_lv 3000 (rg (bodyOf Tryd.f80) 4) (.junk :: .c (.ptr 0 0 0 0) :: J32 (J8 (J2 ([])))) [.cells 39 (Ty.enc tProg p)] = tables_r4_R p := by kernel_rfl
theorem tables_r12 (p : EProg)  : Run Tryd.prog 80 (retQ Tryd.prog (.c (.bool (!(List.any p.2.1 (oddV p)))))) (rg (bodyOf Tryd.f80) 12) (.junk :: .c (.ptr 0 0 0 0) :: J32 (J8 (J2 ([])))) [.cells 39 (Ty.enc tProg p)] :=
 Run.roundA oc19 tables_lv 3000 Tryd.func80 mixed (tables_r12_R p) (tables_r12_R_ok p) (by
  unfold tables_r12_R
  refine g_callH (conV_fun p.2.1 p) ?_
  exact g_retb (by rfl)
  )
theorem tables_l0 (p : EProg) (i : Nat) (n : Nat) (m : ByteArray → Option Int) (hl : p.2.2.length ≤ 200) (hn : n = i) : Run Tryd.prog 80 (retQ Tryd.prog (.c (.bool (onceF p (p.2.2.drop i) m)))) (lp (bodyOf Tryd.f80) 0) (.junk :: .c (.ptr 0 0 0 0) :: J2 (.c (.map 1) :: J16 (J4 (.junk :: .c (.ro .str p.2.2) :: .c (.int .i64 (p.2.2.length : Int)) :: .c (.int .i64 ((i : Nat) : Int)) :: J8 (J4 (J2 (.junk :: []))))))) [.cells 39 (Ty.enc tProg p), .map 9 .str tI n m] :=
 Run.roundA oc19 tables_lv 3000 Tryd.func80 mixed (tables_l0_R p i n m) (tables_l0_R_ok p i n m) (by
  unfold tables_l0_R
  refine g_iteD (fun h0 => ?_) (fun h0 => ?_)
  ·refine g_need (by omega) ?_
   refine g_need (by omega) ?_
   refine g_need (by first | rfl | exact ⟨rfl, lawStr⟩ | omega | (constructor <;> omega) | (rw [i64_iff]; omega) | (rw [i64_iff]; constructor <;> omega) | exact ⟨rfl, lawStr, by omega⟩) ?_
   refine g_iteD (fun h1 => ?_) (fun h1 => ?_)
   ·exact g_retl (by rw [dropCons (α := ByteArray) (Ty.dflt .str) (by omega)]; simp only [onceF, h0, h1, if_true])
   ·refine g_need (by first | rfl | exact ⟨rfl, lawStr⟩ | omega | (constructor <;> omega) | (rw [i64_iff]; omega) | (rw [i64_iff]; constructor <;> omega) | exact ⟨rfl, lawStr, by omega⟩) ?_
    refine g_need (by first | rfl | exact ⟨rfl, lawStr⟩ | omega | (constructor <;> omega) | (rw [i64_iff]; omega) | (rw [i64_iff]; constructor <;> omega) | exact ⟨rfl, lawStr, by omega⟩) ?_
    refine g_stop (RunN.keep [0, 1] (false :: true :: F2 (true :: F16 (F4 (false :: true :: true :: true :: F8 (F4 (F2 (false :: []))))))) n0 (by decide) rfl rfl ?_)
    have := tables_l0 p (i + 1) (n + 1) (updM (kt := .str) m (p.2.2.getD i (.str : Ty).dflt) (1 : Int)) hl (by omega); rw [dropCons (α := ByteArray) (Ty.dflt .str) (by omega)]; simp only [onceF, h0, h1, if_false]; exact this
  ·refine g_stop (RunN.keep [0] (false :: true :: F32 (F8 (F2 ([])))) n0 (by decide) rfl rfl ?_)
   have := tables_r12 p; rw [List.drop_eq_nil_of_le (by omega)]; exact this
  )
 termination_by p.2.2.length - i
 decreasing_by all_goals omega
theorem tables_r4 (p : EProg) (hl : p.2.2.length ≤ 200) : Run Tryd.prog 80 (retQ Tryd.prog (.c (.bool (onceF p p.2.2 (fun _ => none))))) (rg (bodyOf Tryd.f80) 4) (.junk :: .c (.ptr 0 0 0 0) :: J32 (J8 (J2 ([])))) [.cells 39 (Ty.enc tProg p)] :=
 Run.roundA oc19 tables_lv 3000 Tryd.func80 mixed (tables_r4_R p) (tables_r4_R_ok p) (by
  unfold tables_r4_R
  refine g_need (rfl) ?_
  refine g_stop (RunN.keep [0, 1] (false :: true :: F2 (true :: F16 (F4 (false :: true :: true :: true :: F8 (F4 (F2 (false :: []))))))) n0 (by decide) rfl rfl ?_)
  have := tables_l0 p 0 0 (fun _ => none) hl rfl; exact this
  )
theorem tables_fun (p : EProg) (hl : p.2.2.length ≤ 200) : AFun Tryd.prog 80 [.agg (tProg.enc p)] (.c (.bool (tablesF p))) :=
 AFun.of oc19 tables_lv 3000 Tryd.func80 mixed rfl (by decide) (Nat.le_of_ble_eq_true rfl) _ (tables_T_ok p) fun hF => by
  unfold tables_T
  refine g_call (words_fun) (fun h => nomatch h) ?_
  refine g_iteD (fun h0 => ?_) (fun h0 => ?_)
  ·exact g_retl (by simp only [tablesF, h0, if_true, if_false])
  ·refine g_need (by first | rfl | exact ⟨rfl, lawStr⟩ | omega | (constructor <;> omega) | (rw [i64_iff]; omega) | (rw [i64_iff]; constructor <;> omega) | exact ⟨rfl, lawStr, by omega⟩) ?_
   refine g_call (eqS_fun (p.2.2.take wordsL.length) wordsL) (fun h => nomatch h) ?_
   refine g_iteND (fun h1 => ?_) (fun h1 => ?_)
   ·exact g_retl (by simp only [tablesF, h0, h1, if_true, if_false])
   ·refine g_stop (RunN.keep [0] (false :: true :: F32 (F8 (F2 ([])))) n0 (by decide) rfl rfl ?_)
    have ht := tables_r4 p hl; simp only [tablesF, h0, h1, if_true, if_false]; exact ht

end Go.Proofs.YtefkifdhjabdiaaDoor
namespace Go.Proofs.YtefkifdhjabdiaaDoor
set_option linter.unusedVariables false
set_option linter.unusedSimpArgs false
set_option maxRecDepth 100000
noncomputable def oc11 : Orc where
 pure := fun f args => match f, args with
  | 83, [a0, a1] => match dA tProg a0, dA tFn a1 with
   | some x0, some x1 => some (.c (.bool (functionF (toProg x0) (toFn x1))))
   | _, _ => none
  | _, _ => none
 heap := fun _ _ _ => none
def bad_lv : LV := ⟨([]), []⟩
noncomputable def bad_T (f : EFn) (p : EProg) : Tree :=
 .call 83 [.agg (Ty.enc tProg p), .agg (Ty.enc tFn f)] false (.c (.bool (functionF (toProg p) (toFn f)))) <|
 .ret (.c (.bool (!(functionF (toProg p) (toFn f))))) [.cells 39 (Ty.enc tProg p), .cells 84 (Ty.enc tFn f)]
theorem bad_T_ok (f : EFn) (p : EProg) : aRun Tryd.prog oc11 Tryd.f82 bad_lv 3000 [.code (bodyOf Tryd.f82)] ([.agg (Ty.enc tFn f), .c (.ptr 0 0 0 0)] ++ List.replicate (Func.ntmps Tryd.f82 - 2) .junk) [.cells 39 (Ty.enc tProg p)] = bad_T f p := by kernel_rfl
theorem bad_fun (f : EFn) (p : EProg) (hf : f.2.2.2.2.length ≤ 600 ∧ f.2.1 ≤ 60) : AFunH Tryd.prog 82 [.agg (Ty.enc tFn f), .c (.ptr 0 0 0 0)] [.cells 39 (Ty.enc tProg p)] (.c (.bool ((!(functionF (toProg p) (toFn f)))))) [.cells 39 (Ty.enc tProg p)] (List.range 1) :=
 AFunH.of oc11 bad_lv 3000 Tryd.func82 mixed rfl (by decide) (Nat.le_of_ble_eq_true rfl) rfl rfl (Nat.le_refl _) _ (bad_T_ok f p) fun hF => by
  unfold bad_T
  refine g_call (function_fun p f hf.1 hf.2) (fun h => nomatch h) ?_
  exact g_rh [0] (show ∀ k, k < 1 → ([0] : List Nat)[k]? = some k by decide) (by decide) (by simp only [renA, ren1, renC, leAV, leA1, leC]; try rfl) rfl

def firstF (q : EFn → Bool) : Nat → List EFn → Int
 | _, [] => -1
 | i, f :: r => if q f = true then (i : Int) else firstF q (i + 1) r
theorem firstF_ge {q : EFn → Bool} : ∀ {l : List EFn} {i : Nat}, decide (0 ≤ firstF q i l) = l.any q
 | [], i => rfl
 | f :: r, i => by
  unfold firstF
  rw [List.any_cons]
  split
  ·rename_i h; rw [h]; simp
  ·rename_i h; rw [firstF_ge (l := r)]; simp only [Bool.not_eq_true] at h; rw [h]; rfl
def badF (p : EProg) (f : EFn) : Bool := !(functionF (toProg p) (toFn f))
noncomputable def oc12 : Orc where
 pure := fun f args => match f, args with
  | _, _ => none
 heap := fun f args H => match f, args with
  | 82, [a0, .one (.c (.ptr 0 0 0 0))] => match H with
   | [b0] => (match dA tFn a0, dB 39 tProg b0 with
    | some x0, some y0 => some (.c (.bool ((!(functionF (toProg y0) (toFn x0))))), [b0], List.range 1)
    | _, _ => none)
   | _ => none
  | _, _ => none
def idxB_lv : LV := ⟨(true :: true :: F4 (false :: true :: true :: F8 (F2 ([])))), []⟩
noncomputable def idxB_T (l : List EFn) (p : EProg) : Tree :=
 .stop (lp (bodyOf Tryd.f120) 0) (.c (.ro tFn l) :: .c (.fnc (.fn0 82) (.ptr 0 0 0 0)) :: J4 (.junk :: .c (.int .i64 (l.length : Int)) :: .c (.int .i64 0) :: J8 (J2 ([])))) [.cells 39 (Ty.enc tProg p)]
theorem idxB_T_ok (l : List EFn) (p : EProg) : aRun Tryd.prog oc12 Tryd.f120 idxB_lv 3000 [.code (bodyOf Tryd.f120)] ([.c (.ro tFn l), .c (.fnc (.fn0 82) (.ptr 0 0 0 0))] ++ List.replicate (Func.ntmps Tryd.f120 - 2) .junk) [.cells 39 (Ty.enc tProg p)] = idxB_T l p := by kernel_rfl
noncomputable def idxB_l0_R (l : List EFn) (p : EProg) (i : Nat) : Tree :=
 .ite (decide (((i : Nat) : Int) < (l.length : Int)))
 (.need ((0 : Int) ≤ ((i : Nat) : Int) ∧ (((i : Nat) : Int) : Int) < (l.length : Int)) <|
  .need (i < l.length) <|
  .callH 82 [.agg [.int .i64 (l.getD i tFn.dflt).1, .int .i64 (l.getD i tFn.dflt).2.1, .bool (l.getD i tFn.dflt).2.2.1, .ro tI (l.getD i tFn.dflt).2.2.2.1, .ro tOrd (l.getD i tFn.dflt).2.2.2.2], .c (.ptr 0 0 0 0)] [.cells 39 (Ty.enc tProg p)] (.c (.bool (!(functionF (toProg p) (toFn (l.getD i tFn.dflt)))))) [.cells 39 (Ty.enc tProg p)] [0] <|
  .ite ((!(functionF (toProg p) (toFn (l.getD i tFn.dflt)))))
  (.ret (.c (.int .i64 ((i : Nat) : Int))) [.cells 39 (Ty.enc tProg p)])
  (.need (inR .i64 (((i : Nat) : Int) + 1)) <|
  .stop (lp (bodyOf Tryd.f120) 0) (.c (.ro tFn l) :: .c (.fnc (.fn0 82) (.ptr 0 0 0 0)) :: J4 (.junk :: .c (.int .i64 (l.length : Int)) :: .c (.int .i64 (((i : Nat) : Int) + 1)) :: J8 (J2 ([])))) [.cells 39 (Ty.enc tProg p)]))
 (.ret (.c (.int .i64 (-1))) [.cells 39 (Ty.enc tProg p)])
theorem idxB_l0_R_ok (l : List EFn) (p : EProg) (i : Nat) : aRound Tryd.prog oc12 Tryd.f120 idxB_lv 3000 (lp (bodyOf Tryd.f120) 0) (.c (.ro tFn l) :: .c (.fnc (.fn0 82) (.ptr 0 0 0 0)) :: J4 (.junk :: .c (.int .i64 (l.length : Int)) :: .c (.int .i64 ((i : Nat) : Int)) :: J8 (J2 ([])))) [.cells 39 (Ty.enc tProg p)] = idxB_l0_R l p i := by kernel_rfl
theorem idxB_l0 (l : List EFn) (p : EProg) (i : Nat) (hl : l.length ≤ 9223372036854775807) (hs : ∀ f ∈ l, f.2.2.2.2.length ≤ 600 ∧ f.2.1 ≤ 60) : RunN 1 Tryd.prog 120 (retH 1 (.c (.int .i64 (firstF (badF p) i (l.drop i)))) [.cells 39 (Ty.enc tProg p)]) (lp (bodyOf Tryd.f120) 0) (.c (.ro tFn l) :: .c (.fnc (.fn0 82) (.ptr 0 0 0 0)) :: J4 (.junk :: .c (.int .i64 (l.length : Int)) :: .c (.int .i64 ((i : Nat) : Int)) :: J8 (J2 ([])))) [.cells 39 (Ty.enc tProg p)] :=
 Run.roundA oc12 idxB_lv 3000 Tryd.func120 mixed (idxB_l0_R l p i) (idxB_l0_R_ok l p i) (by
  unfold idxB_l0_R
  refine g_iteD (fun h0 => ?_) (fun h0 => ?_)
  ·refine g_need (by omega) ?_
   refine g_need (by omega) ?_
   refine g_callH (bad_fun (l.getD i tFn.dflt) p (hs _ (getD_mem (Ty.dflt tFn) (by omega)))) ?_
   refine g_iteN (fun h1 => ?_) (fun h1 => ?_)
   ·exact g_rh [0] (show ∀ k, k < 1 → ([0] : List Nat)[k]? = some k by decide) (by decide) (by simp only [renA, ren1, renC, leAV, leA1, leC]; refine ⟨trivial, ?_⟩; first | (rw [dropCons (α := EFn) (Ty.dflt tFn) (by omega)]; simp only [firstF, badF, h0, h1, if_true, Bool.not_false]; done) | (rw [List.drop_eq_nil_of_le (by omega)]; rfl)) rfl
   ·refine g_need (i64_iff.2 (by omega)) ?_
    refine g_stop (RunN.keep [0] (true :: true :: F4 (false :: true :: true :: F8 (F2 ([])))) (show ∀ k, k < 1 → ([0] : List Nat)[k]? = some k by decide) (by decide) rfl rfl ?_)
    have := idxB_l0 l p (i + 1) hl hs; rw [dropCons (α := EFn) (Ty.dflt tFn) (by omega)]; simp only [firstF, badF, h0, h1, if_false, Bool.false_eq_true, Bool.not_true]; exact this
  ·exact g_rh [0] (show ∀ k, k < 1 → ([0] : List Nat)[k]? = some k by decide) (by decide) (by simp only [renA, ren1, renC, leAV, leA1, leC]; refine ⟨trivial, ?_⟩; first | (rw [dropCons (α := EFn) (Ty.dflt tFn) (by omega)]; simp only [firstF, badF, h0, if_true, Bool.not_false]; done) | (rw [List.drop_eq_nil_of_le (by omega)]; rfl)) rfl
  )
 termination_by l.length - i
 decreasing_by all_goals omega
theorem idxB_fun (l : List EFn) (p : EProg) (hs : ∀ f ∈ l, f.2.2.2.2.length ≤ 600 ∧ f.2.1 ≤ 60) : AFunH Tryd.prog 120 [.c (.ro tFn l), .c (.fnc (.fn0 82) (.ptr 0 0 0 0))] [.cells 39 (Ty.enc tProg p)] (.c (.int .i64 (firstF (badF p) 0 l))) [.cells 39 (Ty.enc tProg p)] (List.range 1) :=
 AFunH.of oc12 idxB_lv 3000 Tryd.func120 mixed rfl (by decide) (Nat.le_of_ble_eq_true rfl) rfl rfl (Nat.le_refl _) _ (idxB_T_ok l p) fun hF => by
  have hl : l.length ≤ 9223372036854775807 := (hF.ro (i := 0) rfl).1
  unfold idxB_T
  refine g_stop (RunN.keep [0] (true :: true :: F4 (false :: true :: true :: F8 (F2 ([])))) (show ∀ k, k < 1 → ([0] : List Nat)[k]? = some k by decide) (by decide) rfl rfl ?_)
  exact idxB_l0 l p 0 hl hs

noncomputable def oc13 : Orc where
 pure := fun f args => match f, args with
  | _, _ => none
 heap := fun f args H => match f, args with
  | 120, [a0, .one (.c (.fnc (.fn0 82) (.ptr 0 0 0 0)))] => match H with
   | [b0] => (match dA (.slice tFn) a0, dB 39 tProg b0 with
    | some x0, some y0 => some (.c (.int .i64 (firstF (badF y0) 0 x0)), [b0], List.range 1)
    | _, _ => none)
   | _ => none
  | _, _ => none
def conB_lv : LV := ⟨([]), []⟩
noncomputable def conB_T (l : List EFn) (p : EProg) : Tree :=
 .callH 120 [.c (.ro tFn l), .c (.fnc (.fn0 82) (.ptr 0 0 0 0))] [.cells 39 (Ty.enc tProg p)] (.c (.int .i64 (firstF (badF p) 0 l))) [.cells 39 (Ty.enc tProg p)] [0] <|
 .ret (.c (.bool (decide ((0 : Int) ≤ firstF (badF p) 0 l)))) [.cells 39 (Ty.enc tProg p)]
theorem conB_T_ok (l : List EFn) (p : EProg) : aRun Tryd.prog oc13 Tryd.f81 conB_lv 3000 [.code (bodyOf Tryd.f81)] ([.c (.ro tFn l), .c (.fnc (.fn0 82) (.ptr 0 0 0 0))] ++ List.replicate (Func.ntmps Tryd.f81 - 2) .junk) [.cells 39 (Ty.enc tProg p)] = conB_T l p := by kernel_rfl
theorem conB_fun (l : List EFn) (p : EProg) (hs : ∀ f ∈ l, f.2.2.2.2.length ≤ 600 ∧ f.2.1 ≤ 60) : AFunH Tryd.prog 81 [.c (.ro tFn l), .c (.fnc (.fn0 82) (.ptr 0 0 0 0))] [.cells 39 (Ty.enc tProg p)] (.c (.bool (List.any l (badF p)))) [.cells 39 (Ty.enc tProg p)] (List.range 1) :=
 AFunH.of oc13 conB_lv 3000 Tryd.func81 mixed rfl (by decide) (Nat.le_of_ble_eq_true rfl) rfl rfl (Nat.le_refl _) _ (conB_T_ok l p) fun hF => by
  unfold conB_T
  refine g_callH (idxB_fun l p hs) ?_
  exact g_rh [0] (show ∀ k, k < 1 → ([0] : List Nat)[k]? = some k by decide) (by decide) (by simp only [renA, ren1, renC, leAV, leA1, leC]; exact firstF_ge) rfl

theorem large_texts {p : EProg} (h : largeF (toProg p) = false) : p.2.2.length ≤ 200 := by
 unfold largeF at h
 simp only [Bool.or_eq_false_iff] at h
 have := of_decide_eq_false h.1.1.2
 simp [toProg] at this
 exact this
theorem large_fns {p : EProg} (h : largeF (toProg p) = false) : ∀ f ∈ p.1, f.2.2.2.2.length ≤ 600 ∧ f.2.1 ≤ 60 := by
 intro f hf
 unfold largeF at h
 simp only [Bool.or_eq_false_iff] at h
 have h1 := List.any_eq_false.1 h.2 (toFn f) (List.mem_map.2 ⟨f, hf, rfl⟩)
 simp [longFn, toFn] at h1
 exact ⟨h1.1, by have := of_decide_eq_false h1.2; omega⟩
noncomputable def oc14 : Orc where
 pure := fun f args => match f, args with
  | 79, [a0] => match dA tProg a0 with
   | some x0 => some (.c (.bool (largeF (toProg x0))))
   | _ => none
  | 80, [a0] => match dA tProg a0 with
   | some x0 => some (.c (.bool (tablesF x0)))
   | _ => none
  | _, _ => none
 heap := fun f args H => match f, args with
  | 81, [a0, .one (.c (.fnc (.fn0 82) (.ptr 0 0 0 0)))] => match H with
   | [b0] => (match dA (.slice tFn) a0, dB 39 tProg b0 with
    | some x0, some y0 => some (.c (.bool (List.any x0 (badF y0))), [b0], List.range 1)
    | _, _ => none)
   | _ => none
  | _, _ => none
noncomputable def okHead (p : EProg) : Bool := if tablesF p = true then (if p.1.length = 0 then false else if (p.1.getD 0 tFn.dflt).1 = 0 then (if 0 < (p.1.getD 0 tFn.dflt).2.2.2.1.length then false else if (p.1.getD 0 tFn.dflt).2.2.1 = true then false else true) else false) else false
noncomputable def codeF (p : EProg) : Int := if largeF (toProg p) = true then 2 else if okHead p = true then (if p.1.any (badF p) = true then 3 else 0) else 3
def codeCheck_lv : LV := ⟨(false :: true :: F32 (F8 ([]))), [5]⟩
noncomputable def codeCheck_T (p : EProg) : Tree :=
 .call 79 [.agg (Ty.enc tProg p)] false (.c (.bool (largeF (toProg p)))) <|
 .ite (largeF (toProg p))
 (.ret (.c (.int .i64 2)) [.cells 39 (Ty.enc tProg p)])
 (.call 80 [.agg (Ty.enc tProg p)] false (.c (.bool (tablesF p))) <|
  .ite ((!(tablesF p)))
  (.ret (.c (.int .i64 3)) [.cells 39 (Ty.enc tProg p)])
  (.ite (decide ((p.1.length : Int) = 0))
  (.ret (.c (.int .i64 3)) [.cells 39 (Ty.enc tProg p)])
  (.need ((0 : Int) ≤ 0 ∧ (0 : Int) < (p.1.length : Int)) <|
   .need (0 < p.1.length) <|
   .ite ((!(decide ((p.1.getD 0 tFn.dflt).1 = 0))))
   (.ret (.c (.int .i64 3)) [.cells 39 (Ty.enc tProg p)])
   (.need ((0 : Int) ≤ 0 ∧ (0 : Int) < (p.1.length : Int)) <|
   .need (0 < p.1.length) <|
   .ite (decide ((0 : Int) < ((p.1.getD 0 tFn.dflt).2.2.2.1.length : Int)))
   (.ret (.c (.int .i64 3)) [.cells 39 (Ty.enc tProg p)])
   (.need ((0 : Int) ≤ 0 ∧ (0 : Int) < (p.1.length : Int)) <|
    .need (0 < p.1.length) <|
    .ite ((p.1.getD 0 tFn.dflt).2.2.1)
    (.ret (.c (.int .i64 3)) [.cells 39 (Ty.enc tProg p)])
    (.stop (rg (bodyOf Tryd.f42) 5) (.junk :: .c (.ptr 0 0 0 0) :: J32 (J8 ([]))) [.cells 39 (Ty.enc tProg p)]))))))
theorem codeCheck_T_ok (p : EProg) : aRun Tryd.prog oc14 Tryd.f42 codeCheck_lv 3000 [.code (bodyOf Tryd.f42)] ([.agg (tProg.enc p)] ++ List.replicate (Func.ntmps Tryd.f42 - 1) .junk) [] = codeCheck_T p := by kernel_rfl
noncomputable def codeCheck_r5_R (p : EProg) : Tree :=
 .callH 81 [.c (.ro tFn p.1), .c (.fnc (.fn0 82) (.ptr 0 0 0 0))] [.cells 39 (Ty.enc tProg p)] (.c (.bool (List.any p.1 (badF p)))) [.cells 39 (Ty.enc tProg p)] [0] <|
 .ite (List.any p.1 (badF p))
 (.ret (.c (.int .i64 3)) [.cells 39 (Ty.enc tProg p)])
 (.ret (.c (.int .i64 0)) [.cells 39 (Ty.enc tProg p)])
theorem codeCheck_r5_R_ok (p : EProg) : aRound Tryd.prog oc14 Tryd.f42 codeCheck_lv 3000 (rg (bodyOf Tryd.f42) 5) (.junk :: .c (.ptr 0 0 0 0) :: J32 (J8 ([]))) [.cells 39 (Ty.enc tProg p)] = codeCheck_r5_R p := by kernel_rfl
theorem codeCheck_r5 (p : EProg) (hl : largeF (toProg p) = false) : Run Tryd.prog 42 (retQ Tryd.prog (.c (.int .i64 (if p.1.any (badF p) = true then 3 else 0)))) (rg (bodyOf Tryd.f42) 5) (.junk :: .c (.ptr 0 0 0 0) :: J32 (J8 ([]))) [.cells 39 (Ty.enc tProg p)] :=
 Run.roundA oc14 codeCheck_lv 3000 Tryd.func42 mixed (codeCheck_r5_R p) (codeCheck_r5_R_ok p) (by
  unfold codeCheck_r5_R
  refine g_callH (conB_fun p.1 p (large_fns (by assumption))) ?_
  refine g_ite (fun h0 => ?_) (fun h0 => ?_)
  ·exact g_reti (by simp only [h0, if_true, if_false, Bool.false_eq_true])
  ·exact g_reti (by simp only [h0, if_true, if_false, Bool.false_eq_true])
  )
theorem codeCheck_fun (p : EProg) : AFun Tryd.prog 42 [.agg (tProg.enc p)] (.c (.int .i64 (codeF p))) :=
 AFun.of oc14 codeCheck_lv 3000 Tryd.func42 mixed rfl (by decide) (Nat.le_of_ble_eq_true rfl) _ (codeCheck_T_ok p) fun hF => by
  unfold codeCheck_T
  refine g_call (large_fun p) (fun h => nomatch h) ?_
  refine g_ite (fun h0 => ?_) (fun h0 => ?_)
  ·exact g_reti (by first | (simp only [codeF, okHead, h0, if_true, if_false, Bool.false_eq_true]; done) | (simp_all [codeF, okHead]; done))
  ·refine g_call (tables_fun p (large_texts (by assumption))) (fun h => nomatch h) ?_
   refine g_iteN (fun h1 => ?_) (fun h1 => ?_)
   ·exact g_reti (by first | (simp only [codeF, okHead, h0, h1, if_true, if_false, Bool.false_eq_true]; done) | (simp_all [codeF, okHead]; done))
   ·refine g_iteD (fun h2 => ?_) (fun h2 => ?_)
    ·exact g_reti (by first | (simp only [codeF, okHead, h0, h1, h2, if_true, if_false, Bool.false_eq_true]; done) | (simp_all [codeF, okHead]; done))
    ·refine g_need (by omega) ?_
     refine g_need (by omega) ?_
     refine g_iteND (fun h3 => ?_) (fun h3 => ?_)
     ·exact g_reti (by first | (simp only [codeF, okHead, h0, h1, h2, h3, if_true, if_false, Bool.false_eq_true]; done) | (simp_all [codeF, okHead]; done))
     ·refine g_need (by omega) ?_
      refine g_need (by omega) ?_
      refine g_iteD (fun h4 => ?_) (fun h4 => ?_)
      ·exact g_reti (by first | (simp only [codeF, okHead, h0, h1, h2, h3, h4, if_true, if_false, Bool.false_eq_true]; done) | (simp_all [codeF, okHead]; done))
      ·refine g_need (by omega) ?_
       refine g_need (by omega) ?_
       refine g_ite (fun h5 => ?_) (fun h5 => ?_)
       ·exact g_reti (by first | (simp only [codeF, okHead, h0, h1, h2, h3, h4, h5, if_true, if_false, Bool.false_eq_true]; done) | (simp_all [codeF, okHead]; done))
       ·refine g_stop (RunN.keep [0] (false :: true :: F32 (F8 ([]))) n0 (by decide) rfl rfl ?_)
        have ht := codeCheck_r5 p h0; have e : codeF p = (if p.1.any (badF p) = true then 3 else 0) := (by first | (exfalso; simp_all; done) | (unfold codeF; rw [if_neg (by simp [h0]), if_pos (by first | (simp only [okHead, h0, h1, h2, h3, h4, h5, if_true, if_false, Bool.false_eq_true]; done) | (simp_all [okHead]; done))])); rw [e]; exact ht

end Go.Proofs.YtefkifdhjabdiaaDoor
namespace Go.Proofs.YtefkifdhjabdiaaDoor
set_option linter.unusedVariables false
set_option linter.unusedSimpArgs false
set_option maxRecDepth 100000
noncomputable def oc8 : Orc where
 pure := fun f args => match f, args with
  | 42, [a0] => match dA tProg a0 with
   | some x0 => some (.c (.int .i64 (codeF x0)))
   | _ => none
  | 43, [a0] => match dA tI a0 with
   | some x0 => some (.tup [.agg (Ty.enc tForm ((ofF x0).1)), .c (.bool ((ofF x0).2))])
   | _ => none
  | 44, [a0, a1, a2, a3] => match dA tChk a0, dA tForm a1, dA tIns a2, dA tI a3 with
   | some x0, some x1, some x2, some x3 => some (.c (.bool (formedF x0 x1 x2 x3)))
   | _, _, _, _ => none
  | 45, [a0] => match dA tExit a0 with
   | some x0 => some (.c (.bool (bareF x0)))
   | _ => none
  | 46, [a0, a1, a2] => match dA tChk a0, dA tExit a1, dA tI a2 with
   | some x0, some x1, some x2 => some (.c (.bool (rightXF x0 x1 x2)))
   | _, _, _ => none
  | _, _ => none
 heap := fun _ _ _ => none
def insF (c : EChk) : Nat → List EIns → Int
 | _, [] => 0
 | i, x :: r => if (ofF x.1).2 = false then 7 else if formedF c (ofF x.1).1 x i = false then 3 else insF c (i + 1) r
def exitsF (c : EChk) (n : Int) : List EExit → Int
 | [] => 0
 | x :: r => if rightXF c x n = false then 3 else exitsF c n r
def turnOk (c : EChk) (t : ETrace) : Bool := (if t.2.2.1 = 0 then bareF t.2.2.2.2.2.1 else true) && (if 0 < t.2.2.1 then (decide (t.2.2.2.2.2.1.1 = t.2.1) && rightXF c t.2.2.2.2.2.1 t.2.2.1) else true)
def backOk (c : EChk) (t : ETrace) : Bool := decide (t.2.2.2.2.2.2.1 = t.2.1) && rightXF c t.2.2.2.2.2.2 (t.2.2.2.1.length : Int)
def headOk (p : EProg) (t : ETrace) : Bool := if t.1 < 0 then false else if (p.1.length : Int) ≤ t.1 then false else if t.2.1 < 0 then false else if ((p.1.getD (Int.toNat t.1) tFn.dflt).2.2.2.2.length : Int) ≤ t.2.1 then false else if t.2.2.1 < 0 then false else if (t.2.2.2.1.length : Int) < t.2.2.1 then false else true
def end3F (c : EChk) (t : ETrace) : Int := exitsF c (t.2.2.2.1.length : Int) t.2.2.2.2.1
def end2F (c : EChk) (t : ETrace) : Int := if backOk c t = true then end3F c t else 3
def end1F (c : EChk) (t : ETrace) : Int := if turnOk c t = true then end2F c t else 3
def thenF (a b : Int) : Int := if a = 0 then b else a
def bodyF (c : EChk) (t : ETrace) : Int := thenF (insF c 0 t.2.2.2.1) (end1F c t)
def sizeOk (t : ETrace) : Bool := if 300 < (t.2.2.2.1.length : Int) then false else if 200 < (t.2.2.2.2.1.length : Int) then false else true
def check4F (p : EProg) (t : ETrace) : Int := if sizeOk t = true then (if headOk p t = true then bodyF (p.1.getD (Int.toNat t.1) tFn.dflt, t) t else 3) else 2
noncomputable def checkF (p : EProg) (t : ETrace) : Int := if codeF p = 0 then check4F p t else codeF p
def check_lv : LV := ⟨(F2 (true :: true :: F2 (true :: F32 (F32 (F8 (F2 (true :: true :: true :: F32 (F32 (F2 (false :: true :: true :: true :: F8 (F2 (false :: [])))))))))))), [4, 8, 18, 21, 23]⟩
noncomputable def check_T (p : EProg) (t : ETrace) : Tree :=
 .call 42 [.agg (Ty.enc tProg p)] false (.c (.int .i64 (codeF p))) <|
 .ite ((!(decide (codeF p = 0))))
 (.ret (.c (.int .i64 (codeF p))) [.cells 39 (Ty.enc tProg p), .cells 29 (Ty.enc tTrace t)])
 (.stop (rg (bodyOf Tryd.f17) 4) (J2 (.c (.ptr 0 0 0 0) :: .c (.ptr 1 0 0 0) :: J32 (J32 (J32 (J32 (J32 (.junk :: []))))))) [.cells 39 (Ty.enc tProg p), .cells 29 (Ty.enc tTrace t)])
theorem check_T_ok (p : EProg) (t : ETrace) : aRun Tryd.prog oc8 Tryd.f17 check_lv 3000 [.code (bodyOf Tryd.f17)] ([.agg (tProg.enc p), .agg (tTrace.enc t)] ++ List.replicate (Func.ntmps Tryd.f17 - 2) .junk) [] = check_T p t := by kernel_rfl
noncomputable def check_l1_R (p : EProg) (t : ETrace) (i : Nat) : Tree :=
 .ite (decide (((i : Nat) : Int) < (t.2.2.2.2.1.length : Int)))
 (.need ((0 : Int) ≤ ((i : Nat) : Int) ∧ (((i : Nat) : Int) : Int) < (t.2.2.2.2.1.length : Int)) <|
  .need (i < t.2.2.2.2.1.length) <|
  .call 46 [.agg (Ty.enc tChk (p.1.getD (Int.toNat t.1) tFn.dflt, t)), .agg [.int .i64 (t.2.2.2.2.1.getD i tExit.dflt).1, .int .i64 (t.2.2.2.2.1.getD i tExit.dflt).2.1, .ro tVal (t.2.2.2.2.1.getD i tExit.dflt).2.2.1, .ro tMake (t.2.2.2.2.1.getD i tExit.dflt).2.2.2], .c (.int .i64 (t.2.2.2.1.length : Int))] false (.c (.bool (rightXF ((p.1.getD (Int.toNat t.1) tFn.dflt), t) (t.2.2.2.2.1.getD i tExit.dflt) (t.2.2.2.1.length : Int)))) <|
  .ite ((!(rightXF ((p.1.getD (Int.toNat t.1) tFn.dflt), t) (t.2.2.2.2.1.getD i tExit.dflt) (t.2.2.2.1.length : Int))))
  (.ret (.c (.int .i64 3)) [.cells 29 (Ty.enc tTrace t), .cells 86 (Ty.enc tChk (p.1.getD (Int.toNat t.1) tFn.dflt, t)), .cells 27 [.int .i64 (t.2.2.2.2.1.getD i tExit.dflt).1, .int .i64 (t.2.2.2.2.1.getD i tExit.dflt).2.1, .ro tVal (t.2.2.2.2.1.getD i tExit.dflt).2.2.1, .ro tMake (t.2.2.2.2.1.getD i tExit.dflt).2.2.2]])
  (.need (inR .i64 (((i : Nat) : Int) + 1)) <|
  .stop (lp (bodyOf Tryd.f17) 1) (J2 (.junk :: .c (.ptr 0 0 0 0) :: J2 (.c (.ptr 1 0 0 0) :: J32 (J32 (J32 (J32 (J16 (.c (.ro tExit t.2.2.2.2.1) :: .c (.int .i64 (t.2.2.2.2.1.length : Int)) :: .c (.int .i64 (((i : Nat) : Int) + 1)) :: J8 (J2 (.junk :: [])))))))))) [.cells 29 (Ty.enc tTrace t), .cells 86 (Ty.enc tChk (p.1.getD (Int.toNat t.1) tFn.dflt, t)), .cells 27 [.int .i64 (t.2.2.2.2.1.getD i tExit.dflt).1, .int .i64 (t.2.2.2.2.1.getD i tExit.dflt).2.1, .ro tVal (t.2.2.2.2.1.getD i tExit.dflt).2.2.1, .ro tMake (t.2.2.2.2.1.getD i tExit.dflt).2.2.2]]))
 (.ret (.c (.int .i64 0)) [.cells 29 (Ty.enc tTrace t), .cells 86 (Ty.enc tChk (p.1.getD (Int.toNat t.1) tFn.dflt, t))])
theorem check_l1_R_ok (p : EProg) (t : ETrace) (i : Nat) : aRound Tryd.prog oc8 Tryd.f17 check_lv 3000 (lp (bodyOf Tryd.f17) 1) (J2 (.junk :: .c (.ptr 0 0 0 0) :: J2 (.c (.ptr 1 0 0 0) :: J32 (J32 (J32 (J32 (J16 (.c (.ro tExit t.2.2.2.2.1) :: .c (.int .i64 (t.2.2.2.2.1.length : Int)) :: .c (.int .i64 ((i : Nat) : Int)) :: J8 (J2 (.junk :: [])))))))))) [.cells 29 (Ty.enc tTrace t), .cells 86 (Ty.enc tChk (p.1.getD (Int.toNat t.1) tFn.dflt, t))] = check_l1_R p t i := by kernel_rfl
noncomputable def check_r23_R (p : EProg) (t : ETrace) : Tree :=
 .stop (lp (bodyOf Tryd.f17) 1) (J2 (.junk :: .c (.ptr 0 0 0 0) :: J2 (.c (.ptr 1 0 0 0) :: J32 (J32 (J32 (J32 (J16 (.c (.ro tExit t.2.2.2.2.1) :: .c (.int .i64 (t.2.2.2.2.1.length : Int)) :: .c (.int .i64 0) :: J8 (J2 (.junk :: [])))))))))) [.cells 29 (Ty.enc tTrace t), .cells 86 (Ty.enc tChk (p.1.getD (Int.toNat t.1) tFn.dflt, t))]
abbrev bCe4 : List AV := (J2 (.junk :: .c (.ptr 0 0 0 0) :: J2 (.c (.ptr 1 0 0 0) :: J32 (J32 (J32 (J32 (J16 (J8 (J4 (J2 ([])))))))))))
theorem check_r23_R_ok (p : EProg) (t : ETrace) : aRound Tryd.prog oc8 Tryd.f17 check_lv 3000 (rg (bodyOf Tryd.f17) 23) bCe4 [.cells 29 (Ty.enc tTrace t), .cells 86 (Ty.enc tChk (p.1.getD (Int.toNat t.1) tFn.dflt, t))] = check_r23_R p t := by kernel_rfl
noncomputable def check_r21_R (p : EProg) (t : ETrace) : Tree :=
 .ite ((!(decide (t.2.2.2.2.2.2.1 = t.2.1))))
 (.ret (.c (.int .i64 3)) [.cells 29 (Ty.enc tTrace t), .cells 86 (Ty.enc tChk (p.1.getD (Int.toNat t.1) tFn.dflt, t))])
 (.call 46 [.agg (Ty.enc tChk (p.1.getD (Int.toNat t.1) tFn.dflt, t)), .agg [.int .i64 t.2.2.2.2.2.2.1, .int .i64 t.2.2.2.2.2.2.2.1, .ro tVal t.2.2.2.2.2.2.2.2.1, .ro tMake t.2.2.2.2.2.2.2.2.2], .c (.int .i64 (t.2.2.2.1.length : Int))] false (.c (.bool (rightXF ((p.1.getD (Int.toNat t.1) tFn.dflt), t) t.2.2.2.2.2.2 (t.2.2.2.1.length : Int)))) <|
  .ite ((!(rightXF ((p.1.getD (Int.toNat t.1) tFn.dflt), t) t.2.2.2.2.2.2 (t.2.2.2.1.length : Int))))
  (.ret (.c (.int .i64 3)) [.cells 29 (Ty.enc tTrace t), .cells 86 (Ty.enc tChk (p.1.getD (Int.toNat t.1) tFn.dflt, t))])
  (.stop (rg (bodyOf Tryd.f17) 23) bCe4 [.cells 29 (Ty.enc tTrace t), .cells 86 (Ty.enc tChk (p.1.getD (Int.toNat t.1) tFn.dflt, t))]))
theorem check_r21_R_ok (p : EProg) (t : ETrace) : aRound Tryd.prog oc8 Tryd.f17 check_lv 3000 (rg (bodyOf Tryd.f17) 21) bCe4 [.cells 29 (Ty.enc tTrace t), .cells 86 (Ty.enc tChk (p.1.getD (Int.toNat t.1) tFn.dflt, t))] = check_r21_R p t := by kernel_rfl
noncomputable def check_r18_R (p : EProg) (t : ETrace) : Tree :=
 .ite (decide (t.2.2.1 = 0))
 (.call 45 [.agg [.int .i64 t.2.2.2.2.2.1.1, .int .i64 t.2.2.2.2.2.1.2.1, .ro tVal t.2.2.2.2.2.1.2.2.1, .ro tMake t.2.2.2.2.2.1.2.2.2]] false (.c (.bool (bareF t.2.2.2.2.2.1))) <|
  .ite ((!(bareF t.2.2.2.2.2.1)))
  (.ite ((!(bareF t.2.2.2.2.2.1)))
  (.ret (.c (.int .i64 3)) [.cells 29 (Ty.enc tTrace t), .cells 86 (Ty.enc tChk (p.1.getD (Int.toNat t.1) tFn.dflt, t))])
  (.stop (rg (bodyOf Tryd.f17) 21) bCe4 [.cells 29 (Ty.enc tTrace t), .cells 86 (Ty.enc tChk (p.1.getD (Int.toNat t.1) tFn.dflt, t))]))
  (.ite (decide ((0 : Int) < t.2.2.1))
  (.ite ((!(decide (t.2.2.2.2.2.1.1 = t.2.1))))
   (.ret (.c (.int .i64 3)) [.cells 29 (Ty.enc tTrace t), .cells 86 (Ty.enc tChk (p.1.getD (Int.toNat t.1) tFn.dflt, t))])
   (.call 46 [.agg (Ty.enc tChk (p.1.getD (Int.toNat t.1) tFn.dflt, t)), .agg [.int .i64 t.2.2.2.2.2.1.1, .int .i64 t.2.2.2.2.2.1.2.1, .ro tVal t.2.2.2.2.2.1.2.2.1, .ro tMake t.2.2.2.2.2.1.2.2.2], .c (.int .i64 t.2.2.1)] false (.c (.bool (rightXF ((p.1.getD (Int.toNat t.1) tFn.dflt), t) t.2.2.2.2.2.1 t.2.2.1))) <|
   .ite ((!(rightXF ((p.1.getD (Int.toNat t.1) tFn.dflt), t) t.2.2.2.2.2.1 t.2.2.1)))
   (.ret (.c (.int .i64 3)) [.cells 29 (Ty.enc tTrace t), .cells 86 (Ty.enc tChk (p.1.getD (Int.toNat t.1) tFn.dflt, t))])
   (.stop (rg (bodyOf Tryd.f17) 21) bCe4 [.cells 29 (Ty.enc tTrace t), .cells 86 (Ty.enc tChk (p.1.getD (Int.toNat t.1) tFn.dflt, t))])))
  (.stop (rg (bodyOf Tryd.f17) 21) bCe4 [.cells 29 (Ty.enc tTrace t), .cells 86 (Ty.enc tChk (p.1.getD (Int.toNat t.1) tFn.dflt, t))])))
 (.ite (decide ((0 : Int) < t.2.2.1))
  (.ite ((!(decide (t.2.2.2.2.2.1.1 = t.2.1))))
  (.ret (.c (.int .i64 3)) [.cells 29 (Ty.enc tTrace t), .cells 86 (Ty.enc tChk (p.1.getD (Int.toNat t.1) tFn.dflt, t))])
  (.call 46 [.agg (Ty.enc tChk (p.1.getD (Int.toNat t.1) tFn.dflt, t)), .agg [.int .i64 t.2.2.2.2.2.1.1, .int .i64 t.2.2.2.2.2.1.2.1, .ro tVal t.2.2.2.2.2.1.2.2.1, .ro tMake t.2.2.2.2.2.1.2.2.2], .c (.int .i64 t.2.2.1)] false (.c (.bool (rightXF ((p.1.getD (Int.toNat t.1) tFn.dflt), t) t.2.2.2.2.2.1 t.2.2.1))) <|
   .ite ((!(rightXF ((p.1.getD (Int.toNat t.1) tFn.dflt), t) t.2.2.2.2.2.1 t.2.2.1)))
   (.ret (.c (.int .i64 3)) [.cells 29 (Ty.enc tTrace t), .cells 86 (Ty.enc tChk (p.1.getD (Int.toNat t.1) tFn.dflt, t))])
   (.stop (rg (bodyOf Tryd.f17) 21) bCe4 [.cells 29 (Ty.enc tTrace t), .cells 86 (Ty.enc tChk (p.1.getD (Int.toNat t.1) tFn.dflt, t))])))
  (.stop (rg (bodyOf Tryd.f17) 21) bCe4 [.cells 29 (Ty.enc tTrace t), .cells 86 (Ty.enc tChk (p.1.getD (Int.toNat t.1) tFn.dflt, t))]))
theorem check_r18_R_ok (p : EProg) (t : ETrace) : aRound Tryd.prog oc8 Tryd.f17 check_lv 3000 (rg (bodyOf Tryd.f17) 18) bCe4 [.cells 29 (Ty.enc tTrace t), .cells 86 (Ty.enc tChk (p.1.getD (Int.toNat t.1) tFn.dflt, t))] = check_r18_R p t := by kernel_rfl
abbrev bCe0 (t : ETrace) (i : Nat) : AB := .cells 46 [.int .i64 (t.2.2.2.1.getD i tIns.dflt).1, .int .i64 (t.2.2.2.1.getD i tIns.dflt).2.1, .int .i64 (t.2.2.2.1.getD i tIns.dflt).2.2.1, .int .i64 (t.2.2.2.1.getD i tIns.dflt).2.2.2.1, .int .i64 (t.2.2.2.1.getD i tIns.dflt).2.2.2.2.1, .int .i64 (t.2.2.2.1.getD i tIns.dflt).2.2.2.2.2.1, .int .i64 (t.2.2.2.1.getD i tIns.dflt).2.2.2.2.2.2.1, .int .i64 (t.2.2.2.1.getD i tIns.dflt).2.2.2.2.2.2.2]
abbrev bCe1 (t : ETrace) (i : Nat) : AB := .cells 88 [.int .i64 (ofF (t.2.2.2.1.getD i tIns.dflt).1).1.1, .int .i64 (ofF (t.2.2.2.1.getD i tIns.dflt).1).1.2.1, .int .i64 (ofF (t.2.2.2.1.getD i tIns.dflt).1).1.2.2.1, .bool (ofF (t.2.2.2.1.getD i tIns.dflt).1).1.2.2.2.1, .bool (ofF (t.2.2.2.1.getD i tIns.dflt).1).1.2.2.2.2.1, .int .i64 (ofF (t.2.2.2.1.getD i tIns.dflt).1).1.2.2.2.2.2]
abbrev bCe2 (t : ETrace) (i : Nat) : List AV := (J2 (.junk :: .c (.ptr 0 0 0 0) :: J2 (.c (.ptr 1 0 0 0) :: J32 (J32 (J8 (J2 (.c (.ro tIns t.2.2.2.1) :: .c (.int .i64 (t.2.2.2.1.length : Int)) :: .c (.int .i64 ((i : Nat) : Int)) :: J32 (J32 (J16 (.junk :: []))))))))))
noncomputable def check_l0_R (p : EProg) (t : ETrace) (i : Nat) : Tree :=
 .ite (decide (((i : Nat) : Int) < (t.2.2.2.1.length : Int)))
 (.need ((0 : Int) ≤ ((i : Nat) : Int) ∧ (((i : Nat) : Int) : Int) < (t.2.2.2.1.length : Int)) <|
  .need (i < t.2.2.2.1.length) <|
  .call 43 [.c (.int .i64 (t.2.2.2.1.getD i tIns.dflt).1)] false (.tup [.agg [.int .i64 (ofF (t.2.2.2.1.getD i tIns.dflt).1).1.1, .int .i64 (ofF (t.2.2.2.1.getD i tIns.dflt).1).1.2.1, .int .i64 (ofF (t.2.2.2.1.getD i tIns.dflt).1).1.2.2.1, .bool (ofF (t.2.2.2.1.getD i tIns.dflt).1).1.2.2.2.1, .bool (ofF (t.2.2.2.1.getD i tIns.dflt).1).1.2.2.2.2.1, .int .i64 (ofF (t.2.2.2.1.getD i tIns.dflt).1).1.2.2.2.2.2], .c (.bool (ofF (t.2.2.2.1.getD i tIns.dflt).1).2)]) <|
  .ite ((!(ofF (t.2.2.2.1.getD i tIns.dflt).1).2))
  (.ret (.c (.int .i64 7)) [.cells 29 (Ty.enc tTrace t), .cells 86 (Ty.enc tChk (p.1.getD (Int.toNat t.1) tFn.dflt, t)), (bCe0 t i), (bCe1 t i)])
  (.call 44 [.agg (Ty.enc tChk (p.1.getD (Int.toNat t.1) tFn.dflt, t)), .agg [.int .i64 (ofF (t.2.2.2.1.getD i tIns.dflt).1).1.1, .int .i64 (ofF (t.2.2.2.1.getD i tIns.dflt).1).1.2.1, .int .i64 (ofF (t.2.2.2.1.getD i tIns.dflt).1).1.2.2.1, .bool (ofF (t.2.2.2.1.getD i tIns.dflt).1).1.2.2.2.1, .bool (ofF (t.2.2.2.1.getD i tIns.dflt).1).1.2.2.2.2.1, .int .i64 (ofF (t.2.2.2.1.getD i tIns.dflt).1).1.2.2.2.2.2], .agg [.int .i64 (t.2.2.2.1.getD i tIns.dflt).1, .int .i64 (t.2.2.2.1.getD i tIns.dflt).2.1, .int .i64 (t.2.2.2.1.getD i tIns.dflt).2.2.1, .int .i64 (t.2.2.2.1.getD i tIns.dflt).2.2.2.1, .int .i64 (t.2.2.2.1.getD i tIns.dflt).2.2.2.2.1, .int .i64 (t.2.2.2.1.getD i tIns.dflt).2.2.2.2.2.1, .int .i64 (t.2.2.2.1.getD i tIns.dflt).2.2.2.2.2.2.1, .int .i64 (t.2.2.2.1.getD i tIns.dflt).2.2.2.2.2.2.2], .c (.int .i64 ((i : Nat) : Int))] false (.c (.bool (formedF ((p.1.getD (Int.toNat t.1) tFn.dflt), t) (ofF (t.2.2.2.1.getD i tIns.dflt).1).1 (t.2.2.2.1.getD i tIns.dflt) ((i : Nat) : Int)))) <|
  .ite ((!(formedF ((p.1.getD (Int.toNat t.1) tFn.dflt), t) (ofF (t.2.2.2.1.getD i tIns.dflt).1).1 (t.2.2.2.1.getD i tIns.dflt) ((i : Nat) : Int))))
  (.ret (.c (.int .i64 3)) [.cells 29 (Ty.enc tTrace t), .cells 86 (Ty.enc tChk (p.1.getD (Int.toNat t.1) tFn.dflt, t)), (bCe0 t i), (bCe1 t i)])
  (.need (inR .i64 (((i : Nat) : Int) + 1)) <|
   .stop (lp (bodyOf Tryd.f17) 0) (J2 (.junk :: .c (.ptr 0 0 0 0) :: J2 (.c (.ptr 1 0 0 0) :: J32 (J32 (J8 (J2 (.c (.ro tIns t.2.2.2.1) :: .c (.int .i64 (t.2.2.2.1.length : Int)) :: .c (.int .i64 (((i : Nat) : Int) + 1)) :: J32 (J32 (J16 (.junk :: [])))))))))) [.cells 29 (Ty.enc tTrace t), .cells 86 (Ty.enc tChk (p.1.getD (Int.toNat t.1) tFn.dflt, t)), (bCe0 t i), (bCe1 t i)])))
 (.stop (rg (bodyOf Tryd.f17) 18) (bCe2 t i) [.cells 29 (Ty.enc tTrace t), .cells 86 (Ty.enc tChk (p.1.getD (Int.toNat t.1) tFn.dflt, t))])
theorem check_l0_R_ok (p : EProg) (t : ETrace) (i : Nat) : aRound Tryd.prog oc8 Tryd.f17 check_lv 3000 (lp (bodyOf Tryd.f17) 0) (bCe2 t i) [.cells 29 (Ty.enc tTrace t), .cells 86 (Ty.enc tChk (p.1.getD (Int.toNat t.1) tFn.dflt, t))] = check_l0_R p t i := by kernel_rfl
noncomputable def check_r8_R (p : EProg) (t : ETrace) : Tree :=
 .need ((0 : Int) ≤ t.1 ∧ (t.1 : Int) < (p.1.length : Int)) <|
 .need ((Int.toNat t.1) < p.1.length) <|
 .stop (lp (bodyOf Tryd.f17) 0) (J2 (.c (.ptr 0 0 0 0) :: .c (.ptr 1 0 0 0) :: J2 (.c (.ptr 2 0 0 0) :: J32 (J32 (J8 (J2 (.c (.ro tIns t.2.2.2.1) :: .c (.int .i64 (t.2.2.2.1.length : Int)) :: .c (.int .i64 0) :: J32 (J32 (J16 (.junk :: [])))))))))) [.cells 39 (Ty.enc tProg p), .cells 29 (Ty.enc tTrace t), .cells 86 (Ty.enc tChk (p.1.getD (Int.toNat t.1) tFn.dflt, t))]
theorem check_r8_R_ok (p : EProg) (t : ETrace) : aRound Tryd.prog oc8 Tryd.f17 check_lv 3000 (rg (bodyOf Tryd.f17) 8) (J2 (.c (.ptr 0 0 0 0) :: .c (.ptr 1 0 0 0) :: J32 (J32 (J32 (J32 (J32 (.junk :: []))))))) [.cells 39 (Ty.enc tProg p), .cells 29 (Ty.enc tTrace t)] = check_r8_R p t := by kernel_rfl
noncomputable def check_r4_R (p : EProg) (t : ETrace) : Tree :=
 .ite (decide ((300 : Int) < (t.2.2.2.1.length : Int)))
 (.ret (.c (.int .i64 2)) [.cells 39 (Ty.enc tProg p), .cells 29 (Ty.enc tTrace t)])
 (.ite (decide ((200 : Int) < (t.2.2.2.2.1.length : Int)))
  (.ret (.c (.int .i64 2)) [.cells 39 (Ty.enc tProg p), .cells 29 (Ty.enc tTrace t)])
  (.ite (decide (t.1 < 0))
  (.ret (.c (.int .i64 3)) [.cells 39 (Ty.enc tProg p), .cells 29 (Ty.enc tTrace t)])
  (.ite (decide ((p.1.length : Int) ≤ t.1))
   (.ret (.c (.int .i64 3)) [.cells 39 (Ty.enc tProg p), .cells 29 (Ty.enc tTrace t)])
   (.ite (decide (t.2.1 < 0))
   (.ret (.c (.int .i64 3)) [.cells 39 (Ty.enc tProg p), .cells 29 (Ty.enc tTrace t)])
   (.need ((0 : Int) ≤ t.1 ∧ (t.1 : Int) < (p.1.length : Int)) <|
    .need ((Int.toNat t.1) < p.1.length) <|
    .ite (decide (((p.1.getD (Int.toNat t.1) tFn.dflt).2.2.2.2.length : Int) ≤ t.2.1))
    (.ret (.c (.int .i64 3)) [.cells 39 (Ty.enc tProg p), .cells 29 (Ty.enc tTrace t)])
    (.ite (decide (t.2.2.1 < 0))
    (.ret (.c (.int .i64 3)) [.cells 39 (Ty.enc tProg p), .cells 29 (Ty.enc tTrace t)])
    (.ite (decide ((t.2.2.2.1.length : Int) < t.2.2.1))
     (.ret (.c (.int .i64 3)) [.cells 39 (Ty.enc tProg p), .cells 29 (Ty.enc tTrace t)])
     (.stop (rg (bodyOf Tryd.f17) 8) (J2 (.c (.ptr 0 0 0 0) :: .c (.ptr 1 0 0 0) :: J32 (J32 (J32 (J32 (J32 (.junk :: []))))))) [.cells 39 (Ty.enc tProg p), .cells 29 (Ty.enc tTrace t)]))))))))
theorem check_r4_R_ok (p : EProg) (t : ETrace) : aRound Tryd.prog oc8 Tryd.f17 check_lv 3000 (rg (bodyOf Tryd.f17) 4) (J2 (.c (.ptr 0 0 0 0) :: .c (.ptr 1 0 0 0) :: J32 (J32 (J32 (J32 (J32 (.junk :: []))))))) [.cells 39 (Ty.enc tProg p), .cells 29 (Ty.enc tTrace t)] = check_r4_R p t := by kernel_rfl
theorem check_l1 (p : EProg) (t : ETrace) (i : Nat) (he : t.2.2.2.2.1.length ≤ 200) : Run Tryd.prog 17 (retQ Tryd.prog (.c (.int .i64 (exitsF (p.1.getD (Int.toNat t.1) tFn.dflt, t) (t.2.2.2.1.length : Int) (t.2.2.2.2.1.drop i))))) (lp (bodyOf Tryd.f17) 1) (J2 (.junk :: .c (.ptr 0 0 0 0) :: J2 (.c (.ptr 1 0 0 0) :: J32 (J32 (J32 (J32 (J16 (.c (.ro tExit t.2.2.2.2.1) :: .c (.int .i64 (t.2.2.2.2.1.length : Int)) :: .c (.int .i64 ((i : Nat) : Int)) :: J8 (J2 (.junk :: [])))))))))) [.cells 29 (Ty.enc tTrace t), .cells 86 (Ty.enc tChk (p.1.getD (Int.toNat t.1) tFn.dflt, t))] :=
 Run.roundA oc8 check_lv 3000 Tryd.func17 mixed (check_l1_R p t i) (check_l1_R_ok p t i) (by
  unfold check_l1_R
  refine g_iteD (fun h0 => ?_) (fun h0 => ?_)
  ·refine g_need (by omega) ?_
   refine g_need (by omega) ?_
   refine g_call (rightX_fun ((p.1.getD (Int.toNat t.1) tFn.dflt), t) (t.2.2.2.2.1.getD i tExit.dflt) (t.2.2.2.1.length : Int)) (fun h => nomatch h) ?_
   refine g_iteN (fun h1 => ?_) (fun h1 => ?_)
   ·exact g_reti (by first | (rw [dropCons (α := EExit) (Ty.dflt tExit) (by omega)]; simp only [exitsF, h0, h1, if_true, if_false]; done) | (rw [List.drop_eq_nil_of_le (by omega)]; rfl))
   ·refine g_need (i64_iff.2 (by omega)) ?_
    refine g_stop (RunN.keep [0, 1] (F2 (false :: true :: F2 (true :: F32 (F32 (F32 (F32 (F16 (true :: true :: true :: F8 (F2 (false :: [])))))))))) n0 (by decide) rfl rfl ?_)
    have := check_l1 p t (i + 1) he; rw [dropCons (α := EExit) (Ty.dflt tExit) (by omega)]; simp only [exitsF, h0, h1, if_true, if_false, reduceCtorEq]; exact this
  ·exact g_reti (by first | (rw [dropCons (α := EExit) (Ty.dflt tExit) (by omega)]; simp only [exitsF, h0, if_true, if_false]; done) | (rw [List.drop_eq_nil_of_le (by omega)]; rfl))
  )
 termination_by t.2.2.2.2.1.length - i
 decreasing_by all_goals omega
theorem check_r23 (p : EProg) (t : ETrace) (he : t.2.2.2.2.1.length ≤ 200) : Run Tryd.prog 17 (retQ Tryd.prog (.c (.int .i64 (end3F (p.1.getD (Int.toNat t.1) tFn.dflt, t) t)))) (rg (bodyOf Tryd.f17) 23) bCe4 [.cells 29 (Ty.enc tTrace t), .cells 86 (Ty.enc tChk (p.1.getD (Int.toNat t.1) tFn.dflt, t))] :=
 Run.roundA oc8 check_lv 3000 Tryd.func17 mixed (check_r23_R p t) (check_r23_R_ok p t) (by
  unfold check_r23_R
  refine g_stop (RunN.keep [0, 1] (F2 (false :: true :: F2 (true :: F32 (F32 (F32 (F32 (F16 (true :: true :: true :: F8 (F2 (false :: [])))))))))) n0 (by decide) rfl rfl ?_)
  have ht := check_l1 p t 0 he; exact ht
  )
theorem check_r21 (p : EProg) (t : ETrace) (he : t.2.2.2.2.1.length ≤ 200) : Run Tryd.prog 17 (retQ Tryd.prog (.c (.int .i64 (end2F (p.1.getD (Int.toNat t.1) tFn.dflt, t) t)))) (rg (bodyOf Tryd.f17) 21) bCe4 [.cells 29 (Ty.enc tTrace t), .cells 86 (Ty.enc tChk (p.1.getD (Int.toNat t.1) tFn.dflt, t))] :=
 Run.roundA oc8 check_lv 3000 Tryd.func17 mixed (check_r21_R p t) (check_r21_R_ok p t) (by
  unfold check_r21_R
  refine g_iteND (fun h0 => ?_) (fun h0 => ?_)
  ·exact g_reti (by first | (simp only [end2F, backOk, h0, if_true, if_false, Bool.false_eq_true, reduceCtorEq, Int.reduceEq, Int.reduceNeg, decide_true, decide_false, Bool.not_true, Bool.not_false, Bool.and_true, Bool.true_and, Bool.and_false, Bool.false_and]; done) | (simp_all [end2F, backOk]; done))
  ·refine g_call (rightX_fun ((p.1.getD (Int.toNat t.1) tFn.dflt), t) t.2.2.2.2.2.2 (t.2.2.2.1.length : Int)) (fun h => nomatch h) ?_
   refine g_iteN (fun h1 => ?_) (fun h1 => ?_)
   ·exact g_reti (by first | (simp only [end2F, backOk, h0, h1, if_true, if_false, Bool.false_eq_true, reduceCtorEq, Int.reduceEq, Int.reduceNeg, decide_true, decide_false, Bool.not_true, Bool.not_false, Bool.and_true, Bool.true_and, Bool.and_false, Bool.false_and]; done) | (simp_all [end2F, backOk]; done))
   ·refine g_stop (RunN.keep [0, 1] (F2 (false :: true :: F2 (true :: F32 (F32 (F32 (F32 (F16 (F8 (F4 (F2 ([]))))))))))) n0 (by decide) rfl rfl ?_)
    have ht := check_r23 p t he; first | (simp only [end2F, backOk, h0, h1, if_true, if_false, Bool.false_eq_true, reduceCtorEq, Int.reduceEq, Int.reduceNeg, decide_true, decide_false, Bool.not_true, Bool.not_false, Bool.and_true, Bool.true_and, Bool.and_false, Bool.false_and]; exact ht) | (exfalso; simp_all; done) | (exfalso; omega)
  )
theorem check_r18 (p : EProg) (t : ETrace) (he : t.2.2.2.2.1.length ≤ 200) : Run Tryd.prog 17 (retQ Tryd.prog (.c (.int .i64 (end1F (p.1.getD (Int.toNat t.1) tFn.dflt, t) t)))) (rg (bodyOf Tryd.f17) 18) bCe4 [.cells 29 (Ty.enc tTrace t), .cells 86 (Ty.enc tChk (p.1.getD (Int.toNat t.1) tFn.dflt, t))] :=
 Run.roundA oc8 check_lv 3000 Tryd.func17 mixed (check_r18_R p t) (check_r18_R_ok p t) (by
  unfold check_r18_R
  refine g_iteD (fun h0 => ?_) (fun h0 => ?_)
  ·refine g_call (bare_fun t.2.2.2.2.2.1) (fun h => nomatch h) ?_
   refine g_iteN (fun h1 => ?_) (fun h1 => ?_)
   ·refine g_iteN (fun h2 => ?_) (fun h2 => ?_)
    ·exact g_reti (by first | (simp only [end1F, turnOk, h0, h1, h2, if_true, if_false, Bool.false_eq_true, reduceCtorEq, Int.reduceEq, Int.reduceNeg, decide_true, decide_false, Bool.not_true, Bool.not_false, Bool.and_true, Bool.true_and, Bool.and_false, Bool.false_and]; done) | (simp_all [end1F, turnOk]; done))
    ·refine g_stop (RunN.keep [0, 1] (F2 (false :: true :: F2 (true :: F32 (F32 (F32 (F32 (F16 (F8 (F4 (F2 ([]))))))))))) n0 (by decide) rfl rfl ?_)
     have ht := check_r21 p t he; first | (simp only [end1F, turnOk, h0, h1, h2, if_true, if_false, Bool.false_eq_true, reduceCtorEq, Int.reduceEq, Int.reduceNeg, decide_true, decide_false, Bool.not_true, Bool.not_false, Bool.and_true, Bool.true_and, Bool.and_false, Bool.false_and]; exact ht) | (exfalso; simp_all; done) | (exfalso; omega)
   ·refine g_iteD (fun h2 => ?_) (fun h2 => ?_)
    ·refine g_iteND (fun h3 => ?_) (fun h3 => ?_)
     ·exact g_reti (by first | (simp only [end1F, turnOk, h0, h1, h2, h3, if_true, if_false, Bool.false_eq_true, reduceCtorEq, Int.reduceEq, Int.reduceNeg, decide_true, decide_false, Bool.not_true, Bool.not_false, Bool.and_true, Bool.true_and, Bool.and_false, Bool.false_and]; done) | (simp_all [end1F, turnOk]; done))
     ·refine g_call (rightX_fun ((p.1.getD (Int.toNat t.1) tFn.dflt), t) t.2.2.2.2.2.1 t.2.2.1) (fun h => nomatch h) ?_
      refine g_iteN (fun h4 => ?_) (fun h4 => ?_)
      ·exact g_reti (by first | (simp only [end1F, turnOk, h0, h1, h2, h3, h4, if_true, if_false, Bool.false_eq_true, reduceCtorEq, Int.reduceEq, Int.reduceNeg, decide_true, decide_false, Bool.not_true, Bool.not_false, Bool.and_true, Bool.true_and, Bool.and_false, Bool.false_and]; done) | (simp_all [end1F, turnOk]; done))
      ·refine g_stop (RunN.keep [0, 1] (F2 (false :: true :: F2 (true :: F32 (F32 (F32 (F32 (F16 (F8 (F4 (F2 ([]))))))))))) n0 (by decide) rfl rfl ?_)
       have ht := check_r21 p t he; first | (simp only [end1F, turnOk, h0, h1, h2, h3, h4, if_true, if_false, Bool.false_eq_true, reduceCtorEq, Int.reduceEq, Int.reduceNeg, decide_true, decide_false, Bool.not_true, Bool.not_false, Bool.and_true, Bool.true_and, Bool.and_false, Bool.false_and]; exact ht) | (exfalso; simp_all; done) | (exfalso; omega)
    ·refine g_stop (RunN.keep [0, 1] (F2 (false :: true :: F2 (true :: F32 (F32 (F32 (F32 (F16 (F8 (F4 (F2 ([]))))))))))) n0 (by decide) rfl rfl ?_)
     have ht := check_r21 p t he; first | (simp only [end1F, turnOk, h0, h1, h2, if_true, if_false, Bool.false_eq_true, reduceCtorEq, Int.reduceEq, Int.reduceNeg, decide_true, decide_false, Bool.not_true, Bool.not_false, Bool.and_true, Bool.true_and, Bool.and_false, Bool.false_and]; exact ht) | (exfalso; simp_all; done) | (exfalso; omega)
  ·refine g_iteD (fun h1 => ?_) (fun h1 => ?_)
   ·refine g_iteND (fun h2 => ?_) (fun h2 => ?_)
    ·exact g_reti (by first | (simp only [end1F, turnOk, h0, h1, h2, if_true, if_false, Bool.false_eq_true, reduceCtorEq, Int.reduceEq, Int.reduceNeg, decide_true, decide_false, Bool.not_true, Bool.not_false, Bool.and_true, Bool.true_and, Bool.and_false, Bool.false_and]; done) | (simp_all [end1F, turnOk]; done))
    ·refine g_call (rightX_fun ((p.1.getD (Int.toNat t.1) tFn.dflt), t) t.2.2.2.2.2.1 t.2.2.1) (fun h => nomatch h) ?_
     refine g_iteN (fun h3 => ?_) (fun h3 => ?_)
     ·exact g_reti (by first | (simp only [end1F, turnOk, h0, h1, h2, h3, if_true, if_false, Bool.false_eq_true, reduceCtorEq, Int.reduceEq, Int.reduceNeg, decide_true, decide_false, Bool.not_true, Bool.not_false, Bool.and_true, Bool.true_and, Bool.and_false, Bool.false_and]; done) | (simp_all [end1F, turnOk]; done))
     ·refine g_stop (RunN.keep [0, 1] (F2 (false :: true :: F2 (true :: F32 (F32 (F32 (F32 (F16 (F8 (F4 (F2 ([]))))))))))) n0 (by decide) rfl rfl ?_)
      have ht := check_r21 p t he; first | (simp only [end1F, turnOk, h0, h1, h2, h3, if_true, if_false, Bool.false_eq_true, reduceCtorEq, Int.reduceEq, Int.reduceNeg, decide_true, decide_false, Bool.not_true, Bool.not_false, Bool.and_true, Bool.true_and, Bool.and_false, Bool.false_and]; exact ht) | (exfalso; simp_all; done) | (exfalso; omega)
   ·refine g_stop (RunN.keep [0, 1] (F2 (false :: true :: F2 (true :: F32 (F32 (F32 (F32 (F16 (F8 (F4 (F2 ([]))))))))))) n0 (by decide) rfl rfl ?_)
    have ht := check_r21 p t he; first | (simp only [end1F, turnOk, h0, h1, if_true, if_false, Bool.false_eq_true, reduceCtorEq, Int.reduceEq, Int.reduceNeg, decide_true, decide_false, Bool.not_true, Bool.not_false, Bool.and_true, Bool.true_and, Bool.and_false, Bool.false_and]; exact ht) | (exfalso; simp_all; done) | (exfalso; omega)
  )
theorem check_l0 (p : EProg) (t : ETrace) (i : Nat) (hl : t.2.2.2.1.length ≤ 300) (he : t.2.2.2.2.1.length ≤ 200) : Run Tryd.prog 17 (retQ Tryd.prog (.c (.int .i64 (thenF (insF (p.1.getD (Int.toNat t.1) tFn.dflt, t) i (t.2.2.2.1.drop i)) (end1F (p.1.getD (Int.toNat t.1) tFn.dflt, t) t))))) (lp (bodyOf Tryd.f17) 0) (bCe2 t i) [.cells 29 (Ty.enc tTrace t), .cells 86 (Ty.enc tChk (p.1.getD (Int.toNat t.1) tFn.dflt, t))] :=
 Run.roundA oc8 check_lv 3000 Tryd.func17 mixed (check_l0_R p t i) (check_l0_R_ok p t i) (by
  unfold check_l0_R
  refine g_iteD (fun h0 => ?_) (fun h0 => ?_)
  ·refine g_need (by omega) ?_
   refine g_need (by omega) ?_
   refine g_call (of__fun (t.2.2.2.1.getD i tIns.dflt).1) (fun h => nomatch h) ?_
   refine g_iteN (fun h1 => ?_) (fun h1 => ?_)
   ·exact g_reti (by rw [dropCons (α := EIns) (Ty.dflt tIns) (by omega)]; simp only [insF, thenF, h0, h1, if_true, if_false, Int.reduceEq, reduceCtorEq])
   ·refine g_call (formed_fun ((p.1.getD (Int.toNat t.1) tFn.dflt), t) (ofF (t.2.2.2.1.getD i tIns.dflt).1).1 (t.2.2.2.1.getD i tIns.dflt) ((i : Nat) : Int) (ofF_asks _)) (fun h => nomatch h) ?_
    refine g_iteN (fun h2 => ?_) (fun h2 => ?_)
    ·exact g_reti (by rw [dropCons (α := EIns) (Ty.dflt tIns) (by omega)]; simp only [insF, thenF, h0, h1, h2, if_true, if_false, Int.reduceEq, reduceCtorEq])
    ·refine g_need (i64_iff.2 (by omega)) ?_
     refine g_stop (RunN.keep [0, 1] (F2 (false :: true :: F2 (true :: F32 (F32 (F8 (F2 (true :: true :: true :: F32 (F32 (F16 (false :: [])))))))))) n0 (by decide) rfl rfl ?_)
     have := check_l0 p t (i + 1) hl he; rw [dropCons (α := EIns) (Ty.dflt tIns) (by omega)]; simp only [insF, h0, h1, h2, if_true, if_false, reduceCtorEq]; exact this
  ·refine g_stop (RunN.keep [0, 1] (F2 (false :: true :: F2 (true :: F32 (F32 (F32 (F32 (F16 (F8 (F4 (F2 ([]))))))))))) n0 (by decide) rfl rfl ?_)
   have ht := check_r18 p t he; rw [List.drop_eq_nil_of_le (by omega)]; exact ht
  )
 termination_by t.2.2.2.1.length - i
 decreasing_by all_goals omega
theorem check_r8 (p : EProg) (t : ETrace) (h0 : 0 ≤ t.1 ∧ t.1 < p.1.length) (hl : t.2.2.2.1.length ≤ 300) (he : t.2.2.2.2.1.length ≤ 200) : Run Tryd.prog 17 (retQ Tryd.prog (.c (.int .i64 (bodyF (p.1.getD (Int.toNat t.1) tFn.dflt, t) t)))) (rg (bodyOf Tryd.f17) 8) (J2 (.c (.ptr 0 0 0 0) :: .c (.ptr 1 0 0 0) :: J32 (J32 (J32 (J32 (J32 (.junk :: []))))))) [.cells 39 (Ty.enc tProg p), .cells 29 (Ty.enc tTrace t)] :=
 Run.roundA oc8 check_lv 3000 Tryd.func17 mixed (check_r8_R p t) (check_r8_R_ok p t) (by
  unfold check_r8_R
  refine g_need (by omega) ?_
  refine g_need (by omega) ?_
  refine g_stop (RunN.keep [1, 2] (F2 (false :: true :: F2 (true :: F32 (F32 (F8 (F2 (true :: true :: true :: F32 (F32 (F16 (false :: [])))))))))) n0 (by decide) rfl rfl ?_)
  have ht := check_l0 p t 0 hl he; exact ht
  )
theorem check_r4 (p : EProg) (t : ETrace)  : Run Tryd.prog 17 (retQ Tryd.prog (.c (.int .i64 (check4F p t)))) (rg (bodyOf Tryd.f17) 4) (J2 (.c (.ptr 0 0 0 0) :: .c (.ptr 1 0 0 0) :: J32 (J32 (J32 (J32 (J32 (.junk :: []))))))) [.cells 39 (Ty.enc tProg p), .cells 29 (Ty.enc tTrace t)] :=
 Run.roundA oc8 check_lv 3000 Tryd.func17 mixed (check_r4_R p t) (check_r4_R_ok p t) (by
  unfold check_r4_R
  refine g_iteD (fun h0 => ?_) (fun h0 => ?_)
  ·exact g_reti (by first | (simp only [check4F, sizeOk, headOk, h0, if_true, if_false, Bool.false_eq_true, reduceCtorEq, Int.reduceEq, Int.reduceNeg, decide_true, decide_false, Bool.not_true, Bool.not_false, Bool.and_true, Bool.true_and, Bool.and_false, Bool.false_and]; done) | (simp_all [check4F, sizeOk, headOk]; done))
  ·refine g_iteD (fun h1 => ?_) (fun h1 => ?_)
   ·exact g_reti (by first | (simp only [check4F, sizeOk, headOk, h0, h1, if_true, if_false, Bool.false_eq_true, reduceCtorEq, Int.reduceEq, Int.reduceNeg, decide_true, decide_false, Bool.not_true, Bool.not_false, Bool.and_true, Bool.true_and, Bool.and_false, Bool.false_and]; done) | (simp_all [check4F, sizeOk, headOk]; done))
   ·refine g_iteD (fun h2 => ?_) (fun h2 => ?_)
    ·exact g_reti (by first | (simp only [check4F, sizeOk, headOk, h0, h1, h2, if_true, if_false, Bool.false_eq_true, reduceCtorEq, Int.reduceEq, Int.reduceNeg, decide_true, decide_false, Bool.not_true, Bool.not_false, Bool.and_true, Bool.true_and, Bool.and_false, Bool.false_and]; done) | (simp_all [check4F, sizeOk, headOk]; done))
    ·refine g_iteD (fun h3 => ?_) (fun h3 => ?_)
     ·exact g_reti (by first | (simp only [check4F, sizeOk, headOk, h0, h1, h2, h3, if_true, if_false, Bool.false_eq_true, reduceCtorEq, Int.reduceEq, Int.reduceNeg, decide_true, decide_false, Bool.not_true, Bool.not_false, Bool.and_true, Bool.true_and, Bool.and_false, Bool.false_and]; done) | (simp_all [check4F, sizeOk, headOk]; done))
     ·refine g_iteD (fun h4 => ?_) (fun h4 => ?_)
      ·exact g_reti (by first | (simp only [check4F, sizeOk, headOk, h0, h1, h2, h3, h4, if_true, if_false, Bool.false_eq_true, reduceCtorEq, Int.reduceEq, Int.reduceNeg, decide_true, decide_false, Bool.not_true, Bool.not_false, Bool.and_true, Bool.true_and, Bool.and_false, Bool.false_and]; done) | (simp_all [check4F, sizeOk, headOk]; done))
      ·refine g_need (by omega) ?_
       refine g_need (by omega) ?_
       refine g_iteD (fun h5 => ?_) (fun h5 => ?_)
       ·exact g_reti (by first | (simp only [check4F, sizeOk, headOk, h0, h1, h2, h3, h4, h5, if_true, if_false, Bool.false_eq_true, reduceCtorEq, Int.reduceEq, Int.reduceNeg, decide_true, decide_false, Bool.not_true, Bool.not_false, Bool.and_true, Bool.true_and, Bool.and_false, Bool.false_and]; done) | (simp_all [check4F, sizeOk, headOk]; done))
       ·refine g_iteD (fun h6 => ?_) (fun h6 => ?_)
        ·exact g_reti (by first | (simp only [check4F, sizeOk, headOk, h0, h1, h2, h3, h4, h5, h6, if_true, if_false, Bool.false_eq_true, reduceCtorEq, Int.reduceEq, Int.reduceNeg, decide_true, decide_false, Bool.not_true, Bool.not_false, Bool.and_true, Bool.true_and, Bool.and_false, Bool.false_and]; done) | (simp_all [check4F, sizeOk, headOk]; done))
        ·refine g_iteD (fun h7 => ?_) (fun h7 => ?_)
         ·exact g_reti (by first | (simp only [check4F, sizeOk, headOk, h0, h1, h2, h3, h4, h5, h6, h7, if_true, if_false, Bool.false_eq_true, reduceCtorEq, Int.reduceEq, Int.reduceNeg, decide_true, decide_false, Bool.not_true, Bool.not_false, Bool.and_true, Bool.true_and, Bool.and_false, Bool.false_and]; done) | (simp_all [check4F, sizeOk, headOk]; done))
         ·refine g_stop (RunN.keep [0, 1] (F2 (true :: true :: F32 (F32 (F32 (F32 (F32 (false :: []))))))) n0 (by decide) rfl rfl ?_)
          have ht := check_r8 p t (by omega) (by omega) (by omega); first | (simp only [check4F, sizeOk, headOk, h0, h1, h2, h3, h4, h5, h6, h7, if_true, if_false, Bool.false_eq_true, reduceCtorEq, Int.reduceEq, Int.reduceNeg, decide_true, decide_false, Bool.not_true, Bool.not_false, Bool.and_true, Bool.true_and, Bool.and_false, Bool.false_and]; exact ht) | (exfalso; simp_all; done) | (exfalso; omega)
  )
theorem check_fun (p : EProg) (t : ETrace) : AFun Tryd.prog 17 [.agg (tProg.enc p), .agg (tTrace.enc t)] (.c (.int .i64 (checkF p t))) :=
 AFun.of oc8 check_lv 3000 Tryd.func17 mixed rfl (by decide) (Nat.le_of_ble_eq_true rfl) _ (check_T_ok p t) fun hF => by
  unfold check_T
  refine g_call (codeCheck_fun p) (fun h => nomatch h) ?_
  refine g_iteND (fun h0 => ?_) (fun h0 => ?_)
  ·exact g_reti (by simp only [checkF, h0, if_true, if_false])
  ·refine g_stop (RunN.keep [0, 1] (F2 (true :: true :: F32 (F32 (F32 (F32 (F32 (false :: []))))))) n0 (by decide) rfl rfl ?_)
   have ht := check_r4 p t; first | (simp only [checkF, h0, if_true, if_false, Bool.false_eq_true, reduceCtorEq, Int.reduceEq, Int.reduceNeg, decide_true, decide_false, Bool.not_true, Bool.not_false, Bool.and_true, Bool.true_and, Bool.and_false, Bool.false_and]; exact ht) | (exfalso; simp_all; done) | (exfalso; omega)

end Go.Proofs.YtefkifdhjabdiaaDoor
namespace Go.Proofs.YtefkifdhjabdiaaDoor
set_option linter.unusedVariables false
set_option linter.unusedSimpArgs false
set_option maxRecDepth 100000
def eqIF (a b : List Int) : Bool := decide (a = b)
theorem drop_eqI {a b : List Int} {i : Nat} (hl : a.length = b.length) (hi : i < a.length) : (a.drop i = b.drop i) ↔ (a.getD i (Ty.dflt tI) = b.getD i (Ty.dflt tI) ∧ a.drop (i + 1) = b.drop (i + 1)) := by
 rw [dropCons (l := a) (Ty.dflt tI) hi, dropCons (l := b) (Ty.dflt tI) (by omega), List.cons.injEq]
def eqI_lv : LV := ⟨(false :: true :: F8 (F2 (true :: true :: true :: F8 (F2 (false :: []))))), []⟩
noncomputable def eqI_T (a : List Int) (b : List Int) : Tree :=
 .ite ((!(decide ((a.length : Int) = (b.length : Int)))))
 (.ret (.c (.lit false)) [])
 (.stop (lp (bodyOf Tryd.f41) 0) (.junk :: .c (.ro tI b) :: J8 (J2 (.c (.ro tI a) :: .c (.int .i64 (a.length : Int)) :: .c (.int .i64 0) :: J8 (J2 (.junk :: []))))) [])
theorem eqI_T_ok (a : List Int) (b : List Int) : aRun Tryd.prog oc0 Tryd.f41 eqI_lv 3000 [.code (bodyOf Tryd.f41)] ([.c (.ro tI a), .c (.ro tI b)] ++ List.replicate (Func.ntmps Tryd.f41 - 2) .junk) [] = eqI_T a b := by kernel_rfl
noncomputable def eqI_l0_R (a : List Int) (b : List Int) (i : Nat) : Tree :=
 .ite (decide (((i : Nat) : Int) < (a.length : Int)))
 (.need ((0 : Int) ≤ ((i : Nat) : Int) ∧ (((i : Nat) : Int) : Int) < (a.length : Int)) <|
  .need (i < a.length) <|
  .need ((0 : Int) ≤ ((i : Nat) : Int) ∧ (((i : Nat) : Int) : Int) < (b.length : Int)) <|
  .need (i < b.length) <|
  .ite ((!(decide ((a.getD i tI.dflt) = (b.getD i tI.dflt)))))
  (.ret (.c (.lit false)) [])
  (.need (inR .i64 (((i : Nat) : Int) + 1)) <|
  .stop (lp (bodyOf Tryd.f41) 0) (.junk :: .c (.ro tI b) :: J8 (J2 (.c (.ro tI a) :: .c (.int .i64 (a.length : Int)) :: .c (.int .i64 (((i : Nat) : Int) + 1)) :: J8 (J2 (.junk :: []))))) []))
 (.ret (.c (.lit true)) [])
theorem eqI_l0_R_ok (a : List Int) (b : List Int) (i : Nat) : aRound Tryd.prog oc0 Tryd.f41 eqI_lv 3000 (lp (bodyOf Tryd.f41) 0) (.junk :: .c (.ro tI b) :: J8 (J2 (.c (.ro tI a) :: .c (.int .i64 (a.length : Int)) :: .c (.int .i64 ((i : Nat) : Int)) :: J8 (J2 (.junk :: []))))) [] = eqI_l0_R a b i := by kernel_rfl
theorem eqI_l0 (a : List Int) (b : List Int) (i : Nat) (hl : a.length = b.length) (hb : a.length ≤ 9223372036854775807) : Run Tryd.prog 41 (retQ Tryd.prog (.c (.bool (decide (a.drop i = b.drop i))))) (lp (bodyOf Tryd.f41) 0) (.junk :: .c (.ro tI b) :: J8 (J2 (.c (.ro tI a) :: .c (.int .i64 (a.length : Int)) :: .c (.int .i64 ((i : Nat) : Int)) :: J8 (J2 (.junk :: []))))) [] :=
 Run.roundA oc0 eqI_lv 3000 Tryd.func41 mixed (eqI_l0_R a b i) (eqI_l0_R_ok a b i) (by
  unfold eqI_l0_R
  refine g_iteD (fun h0 => ?_) (fun h0 => ?_)
  ·refine g_need (by omega) ?_
   refine g_need (by omega) ?_
   refine g_need (by omega) ?_
   refine g_need (by omega) ?_
   refine g_iteND (fun h1 => ?_) (fun h1 => ?_)
   ·exact g_retl (by first | (rw [List.drop_eq_nil_of_le (by omega), List.drop_eq_nil_of_le (by omega)]; rfl) | (symm; rw [decide_eq_false_iff_not, drop_eqI hl (by omega)]; exact fun q => h1 q.1))
   ·refine g_need (i64_iff.2 (by omega)) ?_
    refine g_stop (RunN.keep [] (false :: true :: F8 (F2 (true :: true :: true :: F8 (F2 (false :: []))))) n0 (by decide) rfl rfl ?_)
    have := eqI_l0 a b (i + 1) hl hb; have e : decide (a.drop i = b.drop i) = decide (a.drop (i + 1) = b.drop (i + 1)) := (by rw [decide_eq_decide, drop_eqI hl (by omega)]; exact ⟨fun q => q.2, fun q => ⟨h1, q⟩⟩); rw [e]; exact this
  ·exact g_retl (by first | (rw [List.drop_eq_nil_of_le (by omega), List.drop_eq_nil_of_le (by omega)]; rfl) | (symm; rw [decide_eq_false_iff_not, drop_eqI hl (by omega)]; exact fun q => h1 q.1))
  )
 termination_by a.length - i
 decreasing_by all_goals omega
theorem eqI_fun (a : List Int) (b : List Int) : AFun Tryd.prog 41 [.c (.ro tI a), .c (.ro tI b)] (.c (.bool (eqIF a b))) :=
 AFun.of oc0 eqI_lv 3000 Tryd.func41 mixed rfl (by decide) (Nat.le_of_ble_eq_true rfl) _ (eqI_T_ok a b) fun hF => by
  unfold eqI_T
  refine g_iteND (fun h0 => ?_) (fun h0 => ?_)
  ·exact g_retl (by symm; unfold eqIF; rw [decide_eq_false_iff_not]; intro q; exact h0 (by rw [q]))
  ·refine g_stop (RunN.keep [] (false :: true :: F8 (F2 (true :: true :: true :: F8 (F2 (false :: []))))) n0 (by decide) rfl rfl ?_)
   have := eqI_l0 a b 0 (by omega) hF.ro.1.1; exact this

noncomputable def oc9 : Orc where
 pure := fun f args => match f, args with
  | 18, [a0] => match dA tIns a0 with
   | some x0 => some (.c (.ro tI (askF x0)))
   | _ => none
  | 19, [a0] => match dA tI a0 with
   | some x0 => some (.c (.bool (tellF x0)))
   | _ => none
  | 41, [a0, a1] => match dA (.slice tI) a0, dA (.slice tI) a1 with
   | some x0, some x1 => some (.c (.bool (eqIF x0 x1)))
   | _, _ => none
  | _, _ => none
 heap := fun _ _ _ => none
def irred_lv : LV := ⟨([]), []⟩
noncomputable def irred_T  : Tree :=
 .call 18 [.agg [.int .i64 14, .int .i64 4, .int .i64 5, .int .i64 6, .int .i64 0, .int .i64 0, .int .i64 0, .int .i64 0]] false (.c (.ro tI (askF (14, (4, (5, (6, (0, (0, (0, 0)))))))))) <|
 .need (0 = 0 ∧ 3 = ([4, 5, 6]).length) <|
 .call 41 [.c (.ro tI (askF (14, (4, (5, (6, (0, (0, (0, 0))))))))), .c (.ro tI ([4, 5, 6]))] true (.c (.bool (eqIF (askF (14, (4, (5, (6, (0, (0, (0, 0)))))))) ([4, 5, 6])))) <|
 .ite (eqIF (askF (14, (4, (5, (6, (0, (0, (0, 0)))))))) ([4, 5, 6]))
 (.call 19 [.c (.int .i64 13)] false (.c (.bool (tellF 13))) <|
  .ite (tellF 13)
  (.call 19 [.c (.int .i64 11)] false (.c (.bool (tellF 11))) <|
  .ret (.c (.bool (!(tellF 11)))) [.vec 3 tI ([4, 5, 6])])
  (.ret (.c (.lit false)) [.vec 3 tI ([4, 5, 6])]))
 (.ret (.c (.lit false)) [.vec 3 tI ([4, 5, 6])])
theorem irred_T_ok  : aRun Tryd.prog oc9 Tryd.f15 irred_lv 3000 [.code (bodyOf Tryd.f15)] ([] ++ List.replicate (Func.ntmps Tryd.f15 - 0) .junk) [] = irred_T  := by kernel_rfl
theorem irred_fun  : AFun Tryd.prog 15 [] (.c (.bool (true))) :=
 AFun.of oc9 irred_lv 3000 Tryd.func15 mixed rfl (by decide) (Nat.le_of_ble_eq_true rfl) _ (irred_T_ok ) fun hF => by
  unfold irred_T
  refine g_call (asks_fun (14, (4, (5, (6, (0, (0, (0, 0)))))))) (fun h => nomatch h) ?_
  refine g_need (by first | omega | decide | exact ⟨rfl, rfl⟩) ?_
  refine g_call (eqI_fun (askF (14, (4, (5, (6, (0, (0, (0, 0)))))))) ([4, 5, 6])) (fun _ => rfl) ?_
  refine g_ite (fun h0 => ?_) (fun h0 => ?_)
  ·refine g_call (tells_fun 13) (fun h => nomatch h) ?_
   refine g_ite (fun h1 => ?_) (fun h1 => ?_)
   ·refine g_call (tells_fun 11) (fun h => nomatch h) ?_
    exact g_retb (by first | exact absurd h0 (by decide) | exact absurd h1 (by decide) | decide)
   ·exact g_retl (by first | exact absurd h0 (by decide) | exact absurd h1 (by decide) | decide)
  ·exact g_retl (by first | exact absurd h0 (by decide) | exact absurd h1 (by decide) | decide)

theorem insF_at {c : EChk} : ∀ {l : List EIns} {k : Nat}, insF c k l = 0 → ∀ (i : Nat) (x : EIns), l[i]? = some x → (ofF x.1).2 = true ∧ formedF c (ofF x.1).1 x (k + i : Nat) = true
 | [], k, _, i, x, hx => by simp at hx
 | y :: r, k, h, i, x, hx => by
  unfold insF at h
  split at h
  ·exact absurd h (by decide)
  ·split at h
   ·exact absurd h (by decide)
   ·rename_i h1 h2
    cases i with
    | zero =>
     simp at hx
     subst hx
     exact ⟨by simpa using h1, by simpa using h2⟩
    | succ i =>
     simp at hx
     have := insF_at h i x hx
     have e : k + 1 + i = k + (i + 1) := by omega
     rwa [e] at this
theorem check_ins {p : EProg} {t : ETrace} (h : checkF p t = 0) : ∀ (i : Nat) (x : EIns), t.2.2.2.1[i]? = some x → (ofF x.1).2 = true ∧ formedF (p.1.getD (Int.toNat t.1) tFn.dflt, t) (ofF x.1).1 x (i : Nat) = true := by
 unfold checkF at h
 split at h
 ·unfold check4F at h
  split at h
  ·split at h
   ·unfold bodyF thenF at h
    split at h
    ·rename_i h0
     intro i x hx
     have := insF_at h0 i x hx
     simpa using this
    ·rename_i h0; exact absurd h h0
   ·exact absurd h (by decide)
  ·exact absurd h (by decide)
 ·rename_i h0; exact absurd h h0
theorem check_asks {p : EProg} {t : ETrace} (h : checkF p t = 0) {i : Nat} (hi : i < t.2.2.2.1.length) : ∀ v ∈ askF (t.2.2.2.1.getD i tIns.dflt), 0 ≤ v ∧ v < (i : Int) ∧ v < (t.2.2.2.1.length : Int) ∧ tellF (t.2.2.2.1.getD v.toNat tIns.dflt).1 = true := by
 intro v hv
 have hx : t.2.2.2.1[i]? = some (t.2.2.2.1.getD i tIns.dflt) := by rw [List.getD_eq_getElem?_getD, List.getElem?_eq_getElem hi]; rfl
 obtain ⟨h1, h2⟩ := check_ins h i _ hx
 unfold askF at hv
 rw [if_pos h1] at hv
 unfold formedF at h2
 rw [Bool.and_eq_true] at h2
 have h3 := List.all_eq_true.1 h2.1 v hv
 exact valueF_len h3
end Go.Proofs.YtefkifdhjabdiaaDoor
namespace Go.Proofs.YtefkifdhjabdiaaDoor
set_option linter.unusedVariables false
set_option linter.unusedSimpArgs false
theorem makeF_iff {c : EChk} {m : EMake} {a : Int} : makeF c m a = true ↔ valueF c m.1 a = true ∧ (c.2.2.2.2.1.getD (Int.toNat m.1) tIns.dflt).1 = 18 ∧ 1 ≤ m.2.1 ∧ m.2.1 ≤ 3 ∧ 0 ≤ m.2.2.1 ∧ (0 < m.2.2.1 → m.2.1 = 1) ∧ m.2.2.2.length ≤ 100 ∧ valuesF c m.2.2.2 a = true := by
 unfold makeF
 cases hv : valueF c m.1 a with
 | false => simp
 | true =>
  by_cases h1 : (c.2.2.2.2.1.getD (Int.toNat m.1) tIns.dflt).1 = 18
  ·rw [if_neg (by simp), if_neg (by rw [decide_eq_true h1]; decide)]
   by_cases h2 : m.2.1 < 1
   ·rw [if_pos h2]; constructor
    ·intro h; cases h
    ·rintro ⟨_, _, h3, _⟩; omega
   ·rw [if_neg h2]
    by_cases h3 : 3 < m.2.1
    ·rw [if_pos h3]; constructor
     ·intro h; cases h
     ·rintro ⟨_, _, _, h4, _⟩; omega
    ·rw [if_neg h3]
     by_cases h4 : m.2.2.1 < 0
     ·rw [if_pos h4]; constructor
      ·intro h; cases h
      ·rintro ⟨_, _, _, _, h5, _⟩; omega
     ·rw [if_neg h4]
      have key : (if (m.2.2.2.length : Int) ≤ 100 then valuesF c m.2.2.2 a else false) = true ↔ m.2.2.2.length ≤ 100 ∧ valuesF c m.2.2.2 a = true := by
       by_cases h6 : (m.2.2.2.length : Int) ≤ 100
       ·rw [if_pos h6]; exact ⟨fun h => ⟨by omega, h⟩, fun h => h.2⟩
       ·rw [if_neg h6]; exact ⟨fun h => (by cases h), fun h => absurd h.1 (by omega)⟩
      by_cases h5 : 0 < m.2.2.1
      ·rw [if_pos h5]
       by_cases h7 : m.2.1 = 1
       ·rw [if_neg (by simp [h7]), key]
        exact ⟨fun h => ⟨rfl, h1, by omega, by omega, by omega, fun _ => h7, h⟩, fun h => h.2.2.2.2.2.2⟩
       ·rw [if_pos (by simp [h7])]
        exact ⟨fun h => (by cases h), fun h => absurd (h.2.2.2.2.2.1 h5) h7⟩
      ·rw [if_neg h5, key]
       exact ⟨fun h => ⟨rfl, h1, by omega, by omega, by omega, fun h' => absurd h' h5, h⟩, fun h => h.2.2.2.2.2.2⟩
  ·rw [if_neg (by simp), if_pos (by rw [decide_eq_false h1]; rfl)]
   exact ⟨fun h => (by cases h), fun h => absurd h.2.1 h1⟩
theorem setsF_len {c : EChk} {a : Int} : ∀ {l : List ESet} {last : Int}, setsF c a last l = true → l.length ≤ (c.1.2.1 - 1 - last).toNat
 | [], _, _ => by simp
 | s :: r, last, h => by
  unfold setsF at h
  split at h
  ·cases h
  ·split at h
   ·cases h
   ·split at h
    ·cases h
    ·have := setsF_len h
     simp only [List.length_cons]
     omega
theorem makesF_len {c : EChk} {a : Int} : ∀ {l : List EMake} {last : Int}, makesF c a last l = true → l.length ≤ ((c.2.2.2.2.1.length : Int) - 1 - last).toNat ∧ ∀ m ∈ l, m.2.2.2.length ≤ 100
 | [], _, _ => by simp
 | m :: r, last, h => by
  unfold makesF at h
  split at h
  ·cases h
  ·rename_i h1
   split at h
   ·cases h
   ·rename_i h2
    obtain ⟨q1, q2⟩ := makesF_len h
    have h2 : makeF c m a = true := by simpa using h2
    have hv := makeF_iff.1 h2
    refine ⟨?_, fun x hx => ?_⟩
    ·simp only [List.length_cons]
     have := valueF_len hv.1
     omega
    ·rcases List.mem_cons.1 hx with rfl | hx
     ·exact hv.2.2.2.2.2.2.1
     ·exact q2 x hx
theorem rightXF_iff {c : EChk} {x : EExit} {a : Int} : rightXF c x a = true ↔ (0 ≤ x.1 ∧ x.1 < (c.1.2.2.2.2.length : Int)) ∧ (0 ≤ x.2.1 ∧ x.2.1 ≤ 200) ∧ setsF c a (-1) x.2.2.1 = true ∧ makesF c a (-1) x.2.2.2 = true := by
 unfold rightXF
 by_cases h1 : x.1 < 0
 ·rw [if_pos h1]; exact ⟨fun h => (by cases h), fun h => absurd h.1.1 (by omega)⟩
 ·rw [if_neg h1]
  by_cases h2 : (c.1.2.2.2.2.length : Int) ≤ x.1
  ·rw [if_pos h2]; exact ⟨fun h => (by cases h), fun h => absurd h.1.2 (by omega)⟩
  ·rw [if_neg h2]
   by_cases h3 : x.2.1 < 0
   ·rw [if_pos h3]; exact ⟨fun h => (by cases h), fun h => absurd h.2.1.1 (by omega)⟩
   ·rw [if_neg h3]
    by_cases h4 : 200 < x.2.1
    ·rw [if_pos h4]; exact ⟨fun h => (by cases h), fun h => absurd h.2.1.2 (by omega)⟩
    ·rw [if_neg h4, Bool.and_eq_true]
     exact ⟨fun h => ⟨⟨by omega, by omega⟩, ⟨by omega, by omega⟩, h⟩, fun h => h.2.2⟩
theorem insF_iff {c : EChk} : ∀ {l : List EIns} {k : Nat}, insF c k l = 0 ↔ ∀ (i : Nat) (x : EIns), l[i]? = some x → (ofF x.1).2 = true ∧ formedF c (ofF x.1).1 x (k + i : Nat) = true
 | [], k => by unfold insF; simp
 | y :: r, k => by
  constructor
  ·exact fun h => insF_at h
  ·intro h
   have h0 := h 0 y rfl
   unfold insF
   rw [if_neg (by simp [h0.1]), if_neg (by have := h0.2; simp at this; simp [this])]
   refine insF_iff.2 fun i x hx => ?_
   have := h (i + 1) x (by simpa using hx)
   rwa [show k + (i + 1) = k + 1 + i by omega] at this
theorem exitsF_iff {c : EChk} {n : Int} : ∀ {l : List EExit}, exitsF c n l = 0 ↔ ∀ x ∈ l, rightXF c x n = true
 | [] => by unfold exitsF; simp
 | y :: r => by
  unfold exitsF
  by_cases h : rightXF c y n = true
  ·rw [if_neg (by simp [h])]
   rw [exitsF_iff]
   simp [h]
  ·rw [if_pos (by simpa using h)]
   constructor
   ·intro h; cases h
   ·intro q; exact absurd (q y (by simp)) h
/-- The checker of a trace. -/
def chkOf (p : EProg) (t : ETrace) : EChk := (p.1.getD (Int.toNat t.1) tFn.dflt, t)
structure CheckOk (p : EProg) (t : ETrace) : Prop where
 code : codeF p = 0
 n : t.2.2.2.1.length ≤ 300
 m : t.2.2.2.2.1.length ≤ 200
 fn0 : 0 ≤ t.1
 fn1 : t.1 < (p.1.length : Int)
 at0 : 0 ≤ t.2.1
 at1 : t.2.1 < ((chkOf p t).1.2.2.2.2.length : Int)
 loop0 : 0 ≤ t.2.2.1
 loop1 : t.2.2.1 ≤ (t.2.2.2.1.length : Int)
 ins : ∀ (i : Nat) (x : EIns), t.2.2.2.1[i]? = some x → (ofF x.1).2 = true ∧ formedF (chkOf p t) (ofF x.1).1 x (i : Nat) = true
 turn0 : t.2.2.1 = 0 → bareF t.2.2.2.2.2.1 = true
 turn1 : 0 < t.2.2.1 → t.2.2.2.2.2.1.1 = t.2.1 ∧ rightXF (chkOf p t) t.2.2.2.2.2.1 t.2.2.1 = true
 back : t.2.2.2.2.2.2.1 = t.2.1 ∧ rightXF (chkOf p t) t.2.2.2.2.2.2 (t.2.2.2.1.length : Int) = true
 exits : ∀ x ∈ t.2.2.2.2.1, rightXF (chkOf p t) x (t.2.2.2.1.length : Int) = true
theorem sizeOk_iff {t : ETrace} : sizeOk t = true ↔ t.2.2.2.1.length ≤ 300 ∧ t.2.2.2.2.1.length ≤ 200 := by
 unfold sizeOk
 by_cases h1 : (300 : Int) < (t.2.2.2.1.length : Int)
 ·rw [if_pos h1]; exact ⟨fun h => (by cases h), fun h => absurd h.1 (by omega)⟩
 ·rw [if_neg h1]
  by_cases h2 : (200 : Int) < (t.2.2.2.2.1.length : Int)
  ·rw [if_pos h2]; exact ⟨fun h => (by cases h), fun h => absurd h.2 (by omega)⟩
  ·rw [if_neg h2]; exact ⟨fun _ => ⟨by omega, by omega⟩, fun _ => rfl⟩
theorem headOk_iff {p : EProg} {t : ETrace} : headOk p t = true ↔ 0 ≤ t.1 ∧ t.1 < (p.1.length : Int) ∧ 0 ≤ t.2.1 ∧ t.2.1 < ((chkOf p t).1.2.2.2.2.length : Int) ∧ 0 ≤ t.2.2.1 ∧ t.2.2.1 ≤ (t.2.2.2.1.length : Int) := by
 unfold headOk
 repeat' split
 all_goals first
  | (refine ⟨fun _ => ⟨?_, ?_, ?_, ?_, ?_, ?_⟩, fun _ => rfl⟩ <;> (try simp only [chkOf]) <;> omega)
  | (simp only [false_iff, Bool.false_eq_true]; rintro ⟨q1, q2, q3, q4, q5, q6⟩; simp only [chkOf] at q4; omega)
theorem turnOk_iff {c : EChk} {t : ETrace} (h0 : 0 ≤ t.2.2.1) : turnOk c t = true ↔ (t.2.2.1 = 0 → bareF t.2.2.2.2.2.1 = true) ∧ (0 < t.2.2.1 → t.2.2.2.2.2.1.1 = t.2.1 ∧ rightXF c t.2.2.2.2.2.1 t.2.2.1 = true) := by
 unfold turnOk
 by_cases h : t.2.2.1 = 0
 ·rw [if_pos h, if_neg (by omega)]
  simp [h]
 ·rw [if_neg h, if_pos (by omega)]
  simp [h, show 0 < t.2.2.1 by omega]
theorem check_iff {p : EProg} {t : ETrace} : checkF p t = 0 ↔ CheckOk p t := by
 constructor
 ·intro h
  unfold checkF at h
  split at h
  ·rename_i hc
   unfold check4F at h
   split at h
   ·rename_i hs
    split at h
    ·rename_i hh
     unfold bodyF thenF at h
     split at h
     ·rename_i hi
      unfold end1F at h
      split at h
      ·rename_i ht
       unfold end2F at h
       split at h
       ·rename_i hb
        obtain ⟨s1, s2⟩ := sizeOk_iff.1 hs
        obtain ⟨q1, q2, q3, q4, q5, q6⟩ := headOk_iff.1 hh
        obtain ⟨t1, t2⟩ := (turnOk_iff q5).1 ht
        unfold backOk at hb
        rw [Bool.and_eq_true, decide_eq_true_eq] at hb
        exact ⟨hc, s1, s2, q1, q2, q3, q4, q5, q6, fun i x hx => by have := insF_iff.1 hi i x hx; rw [Nat.zero_add] at this; exact this, t1, t2, hb, exitsF_iff.1 h⟩
       ·cases h
      ·cases h
     ·rename_i hi; exact absurd h hi
    ·cases h
   ·cases h
  ·rename_i hc; exact absurd h hc
 ·rintro ⟨hc, s1, s2, q1, q2, q3, q4, q5, q6, hi, t1, t2, hb, he⟩
  have e : checkF p t = (if codeF p = 0 then (if sizeOk t = true then (if headOk p t = true then bodyF (chkOf p t) t else 3) else 2) else codeF p) := rfl
  rw [e, if_pos hc, if_pos (sizeOk_iff.2 ⟨s1, s2⟩), if_pos (headOk_iff.2 ⟨q1, q2, q3, q4, q5, q6⟩)]
  unfold bodyF thenF
  rw [if_pos (insF_iff.2 fun i x hx => by have := hi i x hx; rw [Nat.zero_add]; exact this)]
  unfold end1F
  rw [if_pos ((turnOk_iff q5).2 ⟨t1, t2⟩)]
  unfold end2F
  rw [if_pos (by unfold backOk; rw [Bool.and_eq_true, decide_eq_true_eq]; exact hb)]
  exact exitsF_iff.2 he
theorem code_regs {p : EProg} (h : codeF p = 0) : ∀ f ∈ p.1, f.2.2.2.2.length ≤ 600 ∧ f.2.1 ≤ 60 := by
 refine large_fns ?_
 cases hl : largeF (toProg p) with
 | false => rfl
 | true =>
  unfold codeF at h
  rw [if_pos hl] at h
  exact absurd h (by decide)
theorem CheckOk.regs {p : EProg} {t : ETrace} (h : CheckOk p t) : (chkOf p t).1.2.1 ≤ 60 := by
 have h0 := h.fn0
 have h1 := h.fn1
 exact (code_regs h.code _ (getD_mem (α := EFn) (Ty.dflt tFn) (by omega : Int.toNat t.1 < p.1.length))).2
theorem bareF_iff {x : EExit} : bareF x = true ↔ x = (0, 0, [], []) := by
 obtain ⟨a, b, c, d⟩ := x
 unfold bareF
 simp only
 by_cases h1 : a = 0
 ·rw [if_pos h1]
  by_cases h2 : b = 0
  ·rw [if_pos h2]
   by_cases h3 : (c.length : Int) = 0
   ·rw [if_pos h3]
    have : c = [] := List.eq_nil_of_length_eq_zero (by omega)
    subst this; subst h1; subst h2
    rw [decide_eq_true_eq]
    constructor
    ·intro h
     have : d = [] := List.eq_nil_of_length_eq_zero (by omega)
     subst this; rfl
    ·intro h
     injection h with _ h; injection h with _ h; injection h with _ h; subst h; rfl
   ·rw [if_neg h3]
    exact ⟨fun h => (by cases h), fun h => by injection h with _ h; injection h with _ h; injection h with h; subst h; exact absurd rfl h3⟩
  ·rw [if_neg h2]
   exact ⟨fun h => (by cases h), fun h => by injection h with _ h; injection h with h; exact absurd h h2⟩
 ·rw [if_neg h1]
  exact ⟨fun h => (by cases h), fun h => by injection h with h; exact absurd h h1⟩
end Go.Proofs.YtefkifdhjabdiaaDoor
namespace Go.Proofs.YtefkifdhjabdiaaDoor
set_option linter.unusedVariables false
set_option linter.unusedSimpArgs false
theorem valueF_in {c : EChk} {v a : Int} (h : valueF c v a = true) : 0 ≤ v ∧ v < a ∧ v < (c.2.2.2.2.1.length : Int) := by
 unfold valueF at h
 by_cases h1 : 0 ≤ v
 ·rw [if_pos h1] at h
  by_cases h2 : v < a
  ·rw [if_pos h2] at h
   by_cases h3 : v < (c.2.2.2.2.1.length : Int)
   ·exact ⟨h1, h2, h3⟩
   ·rw [if_neg h3] at h; cases h
  ·rw [if_neg h2] at h; cases h
 ·rw [if_neg h1] at h; cases h
theorem mem_take3 {a b c : Int} {n : Nat} : (0 < n → a ∈ [a, b, c].take n) ∧ (1 < n → b ∈ [a, b, c].take n) ∧ (2 < n → c ∈ [a, b, c].take n) := by
 refine ⟨fun h => ?_, fun h => ?_, fun h => ?_⟩
 ·rw [show n = (n - 1) + 1 by omega]; simp
 ·rw [show n = (n - 2) + 1 + 1 by omega]; simp
 ·rw [show n = (n - 3) + 1 + 1 + 1 by omega]; simp
theorem askF_le (x : EIns) : (askF x).length ≤ 3 := by
 unfold askF
 split
 ·rw [List.length_take]; simp; omega
 ·simp
theorem ask_in {p : EProg} {t : ETrace} (hc : CheckOk p t) {i : Nat} (hi : i < t.2.2.2.1.length) :
  ((0 : Int) < ((askF (t.2.2.2.1.getD i tIns.dflt)).length : Int) → 0 ≤ (t.2.2.2.1.getD i tIns.dflt).2.1 ∧ (t.2.2.2.1.getD i tIns.dflt).2.1 < (i : Int)) ∧
  ((1 : Int) < ((askF (t.2.2.2.1.getD i tIns.dflt)).length : Int) → 0 ≤ (t.2.2.2.1.getD i tIns.dflt).2.2.1 ∧ (t.2.2.2.1.getD i tIns.dflt).2.2.1 < (i : Int)) ∧
  ((2 : Int) < ((askF (t.2.2.2.1.getD i tIns.dflt)).length : Int) → 0 ≤ (t.2.2.2.1.getD i tIns.dflt).2.2.2.1 ∧ (t.2.2.2.1.getD i tIns.dflt).2.2.2.1 < (i : Int)) := by
 have ex : t.2.2.2.1[i]? = some (t.2.2.2.1.getD i tIns.dflt) := by rw [List.getD_eq_getElem?_getD, List.getElem?_eq_getElem hi]; rfl
 generalize hx : t.2.2.2.1.getD i tIns.dflt = x at ex ⊢
 obtain ⟨h1, h2⟩ := hc.ins i x ex
 unfold formedF at h2
 rw [Bool.and_eq_true] at h2
 have hv : ∀ v ∈ [x.2.1, x.2.2.1, x.2.2.2.1].take (ofF x.1).1.1.toNat, 0 ≤ v ∧ v < (i : Int) := fun v hm => by
  obtain ⟨q0, q1, _⟩ := valueF_in (List.all_eq_true.1 h2.1 v hm)
  exact ⟨q0, q1⟩
 have hl : (askF x).length ≤ (ofF x.1).1.1.toNat := by
  unfold askF
  rw [if_pos h1, List.length_take]
  omega
 obtain ⟨m0, m1, m2⟩ := mem_take3 (a := x.2.1) (b := x.2.2.1) (c := x.2.2.2.1) (n := (ofF x.1).1.1.toNat)
 exact ⟨fun h => hv _ (m0 (by omega)), fun h => hv _ (m1 (by omega)), fun h => hv _ (m2 (by omega))⟩
end Go.Proofs.YtefkifdhjabdiaaDoor
namespace Go.Proofs.YtefkifdhjabdiaaDoor
set_option linter.unusedVariables false
set_option linter.unusedSectionVars false
set_option linter.unusedSimpArgs false
open Go.RowKit

theorem leC.refl (c : CV) : leC c c := by cases c <;> simp [leC]
theorem leCs.refl : ∀ (l : List CV), leCs l l
 | [] => trivial
 | c :: r => ⟨leC.refl c, leCs.refl r⟩
theorem leA1.refl (a : A1) : leA1 a a := by
 cases a with
 | c c => exact leC.refl c
 | agg cs => exact leCs.refl cs
theorem leA1s.refl : ∀ (l : List A1), leA1s l l
 | [] => trivial
 | c :: r => ⟨leA1.refl c, leA1s.refl r⟩
theorem leAV.refl (a : AV) : leAV a a := by
 cases a with
 | junk => trivial
 | one a => exact leA1.refl a
 | tup l => exact leA1s.refl l
def leB : AB → AB → Prop
 | .dead, .dead => True
 | .dead, .ovec e t xs => xs = []
 | .vec e t xs, .ovec e' t' ys => e = e' ∧ (∃ h : t = t', h ▸ xs = ys) ∧ ys ≠ []
 | .ovec e t xs, .ovec e' t' ys => e = e' ∧ ∃ h : t = t', h ▸ xs = ys
 | .vec e t xs, .vec e' t' ys => e = e' ∧ ∃ h : t = t', h ▸ xs = ys
 | .cells e cs, .cells e' cs' => e = e' ∧ leCs cs cs'
 | a, b => a = b
theorem leB.refl (a : AB) : leB a a := by
 cases a with
 | dead => trivial
 | cells e cs => exact ⟨rfl, leCs.refl cs⟩
 | vec e t xs => exact ⟨rfl, rfl, rfl⟩
 | ovec e t xs => exact ⟨rfl, rfl, rfl⟩
 | map k kt et n m => exact rfl
def leHs : List AB → List AB → Prop
 | [], [] => True
 | a :: r, b :: s => leB a b ∧ leHs r s
 | _, _ => False
theorem leHs.refl : ∀ (l : List AB), leHs l l
 | [] => trivial
 | a :: r => ⟨leB.refl a, leHs.refl r⟩
/-- What it stands for says less. -/
def LeB (a b : AB) : Prop := (b ≠ .dead → a ≠ .dead) ∧ ∀ σ w k, Blk σ w k a → Blk σ w k b
theorem leB.to {a b : AB} (h : leB a b) : LeB (nrm a) (nrm b) := by
 have hE : ∀ {a b : AB}, a = b → LeB (nrm a) (nrm b) := fun h => by subst h; exact ⟨fun h => h, fun _ _ _ h => h⟩
 cases b with
 | dead => cases a <;> simp only [leB] at h <;> first | (exact hE rfl) | cases h
 | cells e cs =>
  cases a <;> simp only [leB] at h <;> try (cases h; done)
  case cells =>
   obtain ⟨rfl, h⟩ := h
   exact ⟨fun _ => by simp [nrm], fun σ w k ⟨c, hc, hcs⟩ => ⟨c, hc, leCs.to h hcs⟩⟩
 | vec e t xs =>
  cases a <;> simp only [leB] at h <;> try (cases h; done)
  case vec => obtain ⟨rfl, rfl, rfl⟩ := h; exact hE rfl
 | ovec e t xs =>
  cases a <;> simp only [leB] at h <;> try (cases h; done)
  case dead => subst h; exact hE (a := .dead) (b := .dead) rfl
  case vec =>
   obtain ⟨rfl, ⟨rfl, h⟩, hx⟩ := h
   subst h
   rw [nrm_ovec hx]
   exact hE (a := .vec ..) rfl
  case ovec => obtain ⟨rfl, rfl, rfl⟩ := h; exact hE rfl
 | map k kt et n m =>
  cases a <;> simp only [leB] at h <;> try (cases h; done)
  case map => exact hE h
theorem leHs.to : ∀ {H H' : List AB}, leHs H H' → H.length = H'.length ∧ ∀ b, LeB (gv H b) (gv H' b)
 | [], [], _ => ⟨rfl, fun b => ⟨fun h => h, fun _ _ _ h => h⟩⟩
 | a :: r, b :: s, h => by
  obtain ⟨h1, h2⟩ := leHs.to h.2
  refine ⟨by simp [h1], fun k => ?_⟩
  cases k with
  | zero => exact h.1.to
  | succ k => exact h2 k
 | [], _ :: _, h => h.elim
 | _ :: _, [], h => h.elim
theorem RelG.le {σ : Sg} {H H' : List AB} {w : World} (hr : RelG σ (gv H) w) (h : ∀ b, LeB (gv H b) (gv H' b)) : RelG σ (gv H') w where
 dom := fun b hb => hr.dom b ((h b).1 hb)
 blk := fun b hb => (h b).2 _ _ _ (hr.blk b ((h b).1 hb))
 inj := fun b b' hb hb' e => hr.inj b b' ((h b).1 hb) ((h b').1 hb') e
 out := fun b hb => hr.out b ((h b).1 hb)
 rlt := hr.rlt
 glob := hr.glob
theorem Out.le {σ0 σ : Sg} {G0 : Nat → AB} {H H' : List AB} {W w : World} (ho : Out σ0 G0 W σ (gv H) w) (h : ∀ b, LeB (gv H b) (gv H' b)) : Out σ0 G0 W σ (gv H') w := ⟨ho.chg, ho.ext, fun b hb => ho.loc b ((h b).1 hb), ho.R⟩
/-- A state that says less. -/
theorem RunN.less {n0 : Nat} {P : Program} {f : FuncId} {Q : AV → List AB → Prop} {todo : List Item} {env env' : List AV} {H H' : List AB} (hE : leAVs env env') (hH : leHs H H') (h : RunN n0 P f Q todo env' H') : RunN n0 P f Q todo env H := fun σ0 G0 W b a w cs h0 h1 h2 h3 => by
 refine h σ0 G0 W b a w cs h0 h1 h2 ?_
 obtain ⟨σ, h3⟩ := h3
 obtain ⟨hl, hB⟩ := hH.to
 have hE := leAVs.to hE
 refine ⟨σ, fun b hb => by rw [← hl]; exact h3.D b hb, ⟨hE.1.symm.trans h3.env.1, fun t => ?_⟩, h3.rel.le hB, h3.out.le hB, h3.defers⟩
 by_cases ht : t < env.length
 ·have ht' : t < env'.length := by rw [← hE.1]; exact ht
  have h4 := h3.env.2 t
  rw [List.getD_eq_getElem?_getD, List.getElem?_eq_getElem ht] at h4
  rw [List.getD_eq_getElem?_getD, List.getElem?_eq_getElem ht']
  exact hE.2 t _ _ (List.getElem?_eq_getElem ht) (List.getElem?_eq_getElem ht') σ w _ h4
 ·rw [List.getD_eq_getElem?_getD, List.getElem?_eq_none (by rw [← hE.1]; omega)]; trivial
/-- Names, dropped and changed. -/
theorem keep_rel {n0 : Nat} {σ0 σ : Sg} {G0 : Nat → AB} {H : List AB} {W w : World} (gl : List Nat) (hn : ∀ k, k < n0 → gl[k]? = some k) (hnd : gl.Nodup) (h0 : ∀ k, σ0.D k → k < n0) (hr : RelG σ (gv H) w) (ho : Out σ0 G0 W σ (gv H) w) :
  RelG (renS gl σ) (gv (gl.map (fun b => renB gl (rgv H b)))) w ∧ Out σ0 G0 W (renS gl σ) (gv (gl.map (fun b => renB gl (rgv H b)))) w := by
 have gk : ∀ k, gv (gl.map (fun b => renB gl (rgv H b))) k ≠ .dead → k < gl.length ∧ gv H (gl.getD k 0) ≠ .dead ∧ gv (gl.map (fun b => renB gl (rgv H b))) k = renB gl (gv H (gl.getD k 0)) := fun k hk => by
  by_cases hl : k < gl.length
  ·have e : gv (gl.map (fun b => renB gl (rgv H b))) k = renB gl (gv H (gl.getD k 0)) := by
    rw [gv_rgv H, ← nrm_renB]
    refine gv_some ?_
    simp [List.getElem?_map, List.getElem?_eq_getElem hl, List.getD_eq_getElem?_getD]
   refine ⟨hl, fun hd => hk ?_, e⟩
   rw [e, hd]; rfl
  ·exact absurd (gv_none (by rw [List.getElem?_map, List.getElem?_eq_none (Nat.le_of_not_lt hl)]; rfl)) hk
 refine ⟨⟨fun b hb => ?_, fun b hb => ?_, fun b b' hb hb' he => ?_, fun b hb => ?_, hr.rlt, hr.glob⟩, ⟨ho.chg, ⟨fun k hk => ?_, ho.ext.R, ho.ext.keep, ho.ext.shape⟩, fun b hb => ?_, ho.R⟩⟩
 ·obtain ⟨hl, hd, _⟩ := gk b hb
  exact ⟨hl, hr.dom _ hd⟩
 ·obtain ⟨hl, hd, e⟩ := gk b hb
  rw [e]
  exact renB_ok (hr.blk _ hd)
 ·obtain ⟨hl, hd, _⟩ := gk b hb
  obtain ⟨hl', hd', _⟩ := gk b' hb'
  have := hr.inj _ _ hd hd' he
  rw [List.getD_eq_getElem?_getD, List.getD_eq_getElem?_getD, List.getElem?_eq_getElem hl, List.getElem?_eq_getElem hl'] at this
  have hp := List.pairwise_iff_getElem.1 hnd
  rcases Nat.lt_trichotomy b b' with h | h | h
  ·exact absurd this (hp b b' hl hl' h)
  ·exact h
  ·exact absurd this.symm (hp b' b hl' hl h)
 ·obtain ⟨hl, hd, _⟩ := gk b hb
  exact hr.out _ hd
 ·have hk0 := hn k (h0 k hk)
  obtain ⟨h4, h5⟩ := ho.ext.ι k hk
  have e : gl.getD k 0 = k := by simp [List.getD_eq_getElem?_getD, hk0]
  exact ⟨⟨(List.getElem?_eq_some_iff.1 hk0).1, by rw [e]; exact h4⟩, by simp only [renS, e]; exact h5⟩
 ·obtain ⟨hl, hd, _⟩ := gk b hb
  exact ho.loc _ hd
/-- What such a function's end is to be: what it made to be read is given up; the result and the memory say no less. -/
def finQ (P : Program) (n0 : Nat) (r : AV) (Ht : List AB) (v : AV) (H : List AB) : Prop := Good P (fun _ _ _ => False) (fun v' H' => ∃ gl : List Nat, (∀ k, k < n0 → gl[k]? = some k) ∧ gl.Nodup ∧ leAV (renA gl v') r ∧ leHs (gl.map (fun b => renB gl (rgv H' b))) Ht) (frzA H v fun v' l => .ret v' (killL l H))
theorem RunN.fin {n0 : Nat} {P : Program} {f : FuncId} {r : AV} {H Ht : List AB} {todo : List Item} {env : List AV} (h : RunN n0 P f (finQ P n0 r Ht) todo env H) : RunN n0 P f (fun v H' => v = r ∧ H' = Ht) todo env H := fun σ0 G0 W b a w cs h0 h1 h2 h3 => by
 obtain ⟨v, w', fr, r1, H', σ', q1, q2, q3, q4, q5, q6, q7⟩ := h σ0 G0 W b a w cs h0 h1 h2 h3
 obtain ⟨v', l, ⟨gl, g1, g2, g3, g4⟩, hlt, hfz⟩ := frzA_ok q1
 have hs := Stp.frz (G' := gv (killL l H')) (l := l) q3 (fun b hb => gv_kill hb)
 have e : updG (gv H') l (gv (killL l H')) = gv (killL l H') := updG_gv fun b hb => gv_kill_off hb
 have hrel := hs.rel q3
 have hout := q4.step q3 hs
 rw [e] at hrel hout
 have hv' : CA (fSD σ' (gv H') l) w' v' v := (hfz σ' (gv H') w' v l (fun _ h => h) (fun _ _ => rfl) q3 (q5.ext fS_ext)).ext fSD_ext
 obtain ⟨k1, k2⟩ := keep_rel gl g1 g2 h0 hrel hout
 obtain ⟨hl, hB⟩ := g4.to
 refine ⟨v, w', fr, r, Ht, renS gl (fSD σ' (gv H') l), ⟨rfl, rfl⟩, fun n hn => ?_, k1.le hB, k2.le hB, g3.to _ _ _ (renA_ok hv'), q6, q7⟩
 rw [← hl]
 simpa using hn.1
section
variable {P : Program} {f : Nat} {fn : Func} {body : Code} {args : List AV} {r : AV} {H Ht : List AB}
theorem AFunH.of_run2 (hf : P.funcs[f]? = some fn) (hb : fn.body = some body) (hn : (fn.name == "runtime.NumGoroutine") = false) (hl : args.length ≤ fn.ntmps)
  (ha : args.map (renA (List.range H.length)) = args) (hH : (List.range H.length).map (fun b => renB (List.range H.length) (rgv H b)) = H) (hle : H.length ≤ Ht.length)
  (h : FactsH args H → RunN H.length P f (fun v H' => v = r ∧ H' = Ht) [.code body] (args ++ List.replicate (fn.ntmps - args.length) .junk) H) : AFunH P f args H r Ht (List.range Ht.length) where
 len := hle
 lt := fun b hb => by simpa using hb
 off := fun b hb => by
  have hb : Ht.length ≤ b := by simpa using hb
  rw [gv_none (List.getElem?_eq_none hb), gv_none (List.getElem?_eq_none (by omega))]
 act := fun σ w vs hrel hfr hv => by
  left
  refine ⟨enters_of hf hn hb _ _, ?_⟩
  have rg : ∀ k, k < H.length → (List.range H.length).getD k 0 = k := fun k hk => by simp [List.getD_eq_getElem?_getD, List.getElem?_range hk]
  have lt_of : ∀ b, gv H b ≠ .dead → b < H.length := fun b hb => by
   rcases Nat.lt_or_ge b H.length with h | h
   ·exact h
   ·exact absurd (gv_none (List.getElem?_eq_none h)) hb
  have hv1 : All2 (CA (renS (List.range H.length) σ) w) args vs := by
   rw [← ha]
   exact ⟨by simpa using hv.1, fun i x y hx hy => by
    rw [List.getElem?_map] at hx
    obtain ⟨q, hq, rfl⟩ := Option.map_eq_some_iff.1 hx
    exact renA_ok (hv.2 i q y hq hy)⟩
  have hB : ∀ b, b < H.length → renB (List.range H.length) (gv H b) = gv H b := fun b hb => by
   have := congrArg (·[b]?) hH
   simp only [List.getElem?_map, List.getElem?_range hb, Option.map_some] at this
   have e2 : H[b]? = some (rgv H b) := by simp [rgv, List.getD_eq_getElem?_getD, List.getElem?_eq_getElem hb]
   rw [e2] at this
   injection this with this
   rw [gv_rgv, ← nrm_renB, this]
  have hrel1 : RelG (renS (List.range H.length) σ) (gv H) w := ⟨fun b hb => ⟨by simpa using lt_of b hb, by rw [rg b (lt_of b hb)]; exact hrel.dom b hb⟩, fun b hb => by
   have h1 := renB_ok (gl := List.range H.length) (hrel.blk b hb)
   rw [hB b (lt_of b hb)] at h1
   show Blk _ w (σ.ι ((List.range H.length).getD b 0)) _
   rw [rg b (lt_of b hb)]
   exact h1, fun b b' hb hb' he => hrel.inj b b' hb hb' (by
    have e1 := rg b (lt_of b hb)
    have e2 := rg b' (lt_of b' hb')
    simp only [renS, e1, e2] at he
    exact he), fun b hb => by
   have := hrel.out b hb
   simp only [renS, rg b (lt_of b hb)]
   exact this, hrel.rlt, hrel.glob⟩
  refine (calls_enter (n0 := H.length) (σ0 := renS (List.range H.length) σ) (fun k hk => by simpa using hk.1) hf hb hl (fun b hb => by simpa using hb.1) hrel1 hv1 (h ⟨_, w, vs, hv, hrel⟩)).mono fun e w' ⟨v, r1, H', σ', he, ⟨e1, e2⟩, q2, q3, q4, q5⟩ => ⟨v, he, ?_⟩
  subst e1; subst e2
  let σ2 : Sg := ⟨fun k => if k < H'.length then σ'.ι k else σ.ι k, fun k => σ.D k ∨ k < H'.length, σ'.R⟩
  have ιk : ∀ k, k < H'.length → σ2.ι k = σ'.ι k := fun k hk => by show (if k < H'.length then _ else _) = _; rw [if_pos hk]
  have hx : Ext σ' w' σ2 w' := ⟨fun k hk => ⟨.inr (q2 k hk), ιk k (q2 k hk)⟩, fun k hk => hk, fun _ _ _ => rfl, fun k c e fr h => ⟨c, fr, h, rfl⟩⟩
  have fp : ∀ k, fpAll (renS (List.range H.length) σ) (gv H) k → fpOf σ (gv H) (List.range H'.length) k := fun k ⟨b, hb, hk⟩ => by
   have hbl := lt_of b hb
   simp only [renS, rg b hbl] at hk
   exact ⟨b, by simp; omega, hb, hk⟩
  refine ⟨σ2, ⟨fun b => by simp [σ2], ⟨fun k hk => ⟨.inl hk, ?_⟩, q4.ext.R, q4.ext.keep, q4.ext.shape⟩, q4.chg.mono fp, fun b hb hd => ?_, fun b hb hd => ?_, fun b hb b' hb' hd hd' he => ?_, fun k hk => (q4.R k hk).imp id (Or.imp id (fp k)), fun b hb hd => ?_, q3.rlt⟩, q5.ext hx⟩
  ·rcases Nat.lt_or_ge k H'.length with hk1 | hk1
   ·rcases Nat.lt_or_ge k H.length with hk2 | hk2
    ·rw [ιk k hk1]
     have := (q4.ext.ι k ⟨by simpa using hk2, by rw [rg k hk2]; exact hk⟩).2
     rw [this]
     simp only [renS, rg k hk2]
    ·exact absurd hk (hfr k (by simpa using hk1) hk2)
   ·show (if k < H'.length then _ else _) = _
    rw [if_neg (by omega)]
  ·have hb1 : b < H'.length := by simpa using hb
   rw [ιk b hb1]
   exact (q3.blk _ hd).same hx rfl
  ·have hb1 : b < H'.length := by simpa using hb
   rw [ιk b hb1]
   rcases q4.loc _ hd with h | h
   ·exact .inl (fp _ h)
   ·exact .inr h
  ·have hb1 : b < H'.length := by simpa using hb
   have hb2 : b' < H'.length := by simpa using hb'
   rw [ιk b hb1, ιk b' hb2] at he
   exact q3.inj _ _ hd hd' he
  ·have hb1 : b < H'.length := by simpa using hb
   rw [ιk b hb1]
   exact q3.out _ hd
/-- By its abstract execution. -/
theorem AFunH.ofL (oc : Orc) (lv : LV) (n : Nat) (hf : P.funcs[f]? = some fn) (hm : P.follows .mixedOrders = true) (hb : fn.body = some body) (hn : (fn.name == "runtime.NumGoroutine") = false) (hl : args.length ≤ fn.ntmps)
  (ha : args.map (renA (List.range H.length)) = args) (hH : (List.range H.length).map (fun b => renB (List.range H.length) (rgv H b)) = H) (hle : H.length ≤ Ht.length) (T : Tree)
  (hT : aRun P oc fn lv n [.code body] (args ++ List.replicate (fn.ntmps - args.length) .junk) H = T)
  (h : FactsH args H → Good P (RunN H.length P f (finQ P H.length r Ht)) (finQ P H.length r Ht) T) : AFunH P f args H r Ht (List.range Ht.length) :=
 .of_run2 hf hb hn hl ha hH hle fun hF => RunN.fin (run_of hf hm n _ _ _ (by rw [hT]; exact h hF))
end
section
variable {P : Program} {S : List Item → List AV → List AB → Prop} {Q : AV → List AB → Prop}
theorem g_fin {n0 : Nat} {r : AV} {Ht : List AB} {v : AV} {H : List AB} (h : Good P (fun _ _ _ => False) (fun v' H' => ∃ gl : List Nat, (∀ k, k < n0 → gl[k]? = some k) ∧ gl.Nodup ∧ leAV (renA gl v') r ∧ leHs (gl.map (fun b => renB gl (rgv H' b))) Ht) (frzA H v fun v' l => .ret v' (killL l H))) : Good P S (finQ P n0 r Ht) (.ret v H) := h
theorem g_end {n0 : Nat} {r : AV} {Ht : List AB} {v : AV} {H : List AB} (gl : List Nat) (h1 : ∀ k, k < n0 → gl[k]? = some k) (h2 : gl.Nodup) (h3 : leAV (renA gl v) r) (h4 : leHs (gl.map (fun b => renB gl (rgv H b))) Ht) : Good P S (fun v' H' => ∃ gl : List Nat, (∀ k, k < n0 → gl[k]? = some k) ∧ gl.Nodup ∧ leAV (renA gl v') r ∧ leHs (gl.map (fun b => renB gl (rgv H' b))) Ht) (.ret v H) := ⟨gl, h1, h2, h3, h4⟩
end
theorem AFunH.frameB {P : Program} {f : Nat} {args args2 : List AV} {H H2 Ht H2' : List AB} {r r2 : AV} {wr2 : List Nat} (gl : List Nat) (h : AFunH P f args H r Ht (List.range Ht.length)) (hnd : decide gl.Nodup = true) (hlt : (gl.all fun b => Nat.blt b H2.length) = true)
  (hH : gl.map (rgv H2) = H.map (upB (gmap gl H2.length))) (ha : args2 = args.map (upA (gmap gl H2.length))) (hr : r2 = upA (gmap gl H2.length) r) (hH' : H2' = frameOut gl H2 Ht) (hw : wr2 = frameWr gl H2.length Ht.length) : AFunH P f args2 H2 r2 H2' wr2 :=
 h.frame gl (of_decide_eq_true hnd) (fun b hb => Nat.le_of_ble_eq_true (List.all_eq_true.1 hlt b hb)) hH ha hr hH' hw
theorem leAVs.same : ∀ {l l' : List AV}, l = l' → leAVs l l'
 | [], _, h => by subst h; trivial
 | a :: r, _, h => by subst h; exact ⟨leAV.refl a, leAVs.same rfl⟩
theorem leAVs.skip : ∀ (n : Nat) {l l' : List AV}, l.take n = l'.take n → leAVs (l.drop n) (l'.drop n) → leAVs l l'
 | 0, _, _, _, h => h
 | n + 1, [], [], _, h => h
 | n + 1, a :: r, b :: s, h, h' => by
  simp only [List.take_succ_cons, List.cons.injEq] at h
  obtain ⟨rfl, h⟩ := h
  exact ⟨leAV.refl a, leAVs.skip n h h'⟩
 | n + 1, [], b :: s, h, _ => by simp at h
 | n + 1, a :: r, [], h, _ => by simp at h
/-! what a callee's memory is, in its caller's -/
def ovecAs (e : TypeId) (t : Ty) : Option AB → Option (List t.El)
 | some (.ovec e' t' xs) => if h : t' = t then (if Nat.beq e' e then some (h ▸ xs) else none) else none
 | _ => none
def vecAs (e : TypeId) (t : Ty) : Option AB → Option (List t.El)
 | some (.vec e' t' xs) => if h : t' = t then (if Nat.beq e' e then some (h ▸ xs) else none) else none
 | _ => none
def cellsAs (e : TypeId) : Option AB → Option (List CV)
 | some (.cells e' cs) => if Nat.beq e' e then some cs else none
 | _ => none
def dC (t : Ty) (c : CV) : Option t.El := match t.dec [c] with
 | some (x, []) => some x
 | _ => none
def hres (gl : List Nat) (H : List AB) (r : AV) (Ht : List AB) : Option (AV × List AB × List Nat) := some (upA (gmap gl H.length) r, frameOut gl H Ht, frameWr gl H.length Ht.length)
end Go.Proofs.YtefkifdhjabdiaaDoor
namespace Go.Proofs.YtefkifdhjabdiaaDoor
set_option linter.unusedVariables false
set_option linter.unusedSimpArgs false
open Go.RowKit
theorem AFunH.ofPro {P : Program} {f g : Nat} {t u : Ty} {ys : List t.El} {xs : List u.El} {e e2 : TypeId} {n b0 b1 : Nat} {r : AV} {H : List AB}
  (h : AFun P f [.c (.ro t ys), .c (.fnc (.fn0 g) (.pro (.slice u) [xs] 0 0))] r) (hr : r.flat = true) (h0 : gv H b0 = .cells e [.sl b1 u.sz 0 n]) (h1 : gv H b1 = .vec e2 u xs) (hn : n = xs.length) :
  AFunH P f [.c (.ro t ys), .c (.fnc (.fn0 g) (.ptr b0 0 0 0))] H r H [] where
 len := Nat.le_refl _
 lt := fun b hb => by cases hb
 off := fun _ _ => rfl
 act := fun σ w vs hrel hD hv => by
  obtain ⟨x0, r0, rfl, q0, hr0⟩ := hv.cons_of
  obtain ⟨x1, r1, rfl, q1, hr1⟩ := hr0.cons_of
  obtain rfl := List.eq_nil_of_length_eq_zero hr1.1.symm
  obtain ⟨f', cs, u', rfl, hf, hD0, rfl⟩ := q1
  have hB := hrel.blk b0 (by rw [h0]; simp)
  rw [h0] at hB
  obtain ⟨c, hc, hcs⟩ := hB
  obtain ⟨v0, rr, hv0, k0, k1⟩ := hcs.cons_of
  obtain rfl := List.eq_nil_of_length_eq_zero k1.1.symm
  have hro : CC (fS σ (gv H) [b0, b1]) w (.ro u xs) v0 := vec_reads hrel h1 hn k0 (by simp)
  have hR0 : fR σ (gv H) [b0, b1] (σ.ι b0) := .inr ⟨b0, by simp, by rw [h0]; simp, rfl⟩
  have hpro : (Rd.slice (Ty.slice u).rd).K (fR σ (gv H) [b0, b1]) w [xs] [.slice (some ⟨σ.ι b0, 0, none⟩) 1 1] := by
   refine ⟨some ⟨σ.ι b0, 0, none⟩, 1, rfl, Nat.le_refl _, by omega, by simp, rfl, by simp, fun _ => ⟨_, rfl, hR0, (Array.getElem?_eq_some_iff.1 hc).1, fun i x hi => ?_⟩⟩
   have hi0 : i = 0 := by
    have := (List.getElem?_eq_some_iff.1 hi).1
    simp at this
    omega
   subst hi0
   simp at hi
   subst hi
   refine ⟨[v0], hro, fun j u hj => ?_⟩
   have hj0 : j = 0 := by
    have := (List.getElem?_eq_some_iff.1 hj).1
    simp at this
    omega
   subst hj0
   rw [add_eq rfl, cell_row hc, hv0]
   simpa using hj
  have h2 : All2 (CA ⟨id, fun _ => False, fR σ (gv H) [b0, b1]⟩ w) [.c (.ro t ys), .c (.fnc (.fn0 g) (.pro (.slice u) [xs] 0 0))] [x0, .func (.func f') #[] (cs.push (.pointer (some ⟨σ.ι b0, 0 * 0 + 0, none⟩)))] :=
   .cons ((Rd.slice t.rd).mono (fun k hk => .inl hk) q0) (.cons ⟨f', cs, _, rfl, hf, ⟨_, 1, hpro, by simp, by simp⟩⟩ .nil)
  have hst : ∀ w', Below w.heap.size w w' → Stp σ (gv H) w [] (gv H) σ w' := fun w' hb => Stp.quiet (fun _ => Iff.rfl) rfl (fun _ h => h) hb (fun _ h => .inl h) fun k hk => Nat.lt_of_lt_of_le (hrel.rlt k hk) hb.size
  have h3 := h (fR σ (gv H) [b0, b1]) w _ (fun k hk => by
   rcases hk with hk | ⟨b, hb, ha, e⟩
   ·exact hrel.rlt k hk
   ·rw [← e]; exact (hrel.blk b ha).lt ha) (hrel.glob.mono fun k h => .inl h) h2
  rcases h3 with ⟨hen, hc⟩ | ⟨v, w', hval, hb, hv⟩
  ·exact .inl ⟨hen, hc.mono fun e w' ⟨v, he, hb, hv⟩ => ⟨v, he, σ, hst w' hb, CA.flat hr hv _ _⟩⟩
  ·exact .inr ⟨v, w', hval, σ, hst w' hb, CA.flat hr hv _ _⟩
/-- Cells as data. -/
def dCs (t : Ty) (cs : List CV) : Option t.El := match t.dec cs with
 | some (x, []) => some x
 | _ => none
/-- A block as a map of given types. -/
def mapAs (k : TypeId) (kt et : Ty) : Option AB → Option (Nat × (kt.El → Option et.El))
 | some (.map k' kt' et' n m) => if h : kt' = kt ∧ et' = et then (if Nat.beq k' k then some (n, cast (by rw [h.1, h.2]) m) else none) else none
 | _ => none
end Go.Proofs.YtefkifdhjabdiaaDoor
namespace Go.Proofs.YtefkifdhjabdiaaDoor
set_option linter.unusedVariables false
set_option linter.unusedSimpArgs false
open Go.RowKit

/-- What a function's frame does, a round's frame does, but for 'defer'. -/
theorem wp_in {P : Program} {l n : Nat} {o : Oper} {a : Act} {w : World} {K : Act → World → Prop} {Q : Exit → Act → World → Prop} (hd : ∀ c, o.op ≠ .defer c) (hl : ¬ LetsOut Q) (h : o.wp P a w K Q) : o.wpIn (Fence.wide.inRound l) n P a w K Q := by
 refine ⟨fun _ _ => trivial, ?_⟩
 rw [Fence.inRound_round, Oper.semAt_eq _ _ _ hd]
 unfold Oper.wp at h
 generalize (execOp a.eval o).run P w = r at h ⊢
 cases r with
 | ok x w' =>
  cases x with
  | value v => exact h
  | skip => exact h
  | defer d => exact h
  | enter f args =>
   refine ⟨(fun hq => nomatch hq), CallsIn.inRound l (callsIn_wide.2 (Calls.mono h fun e w'' he => ?_))⟩
   cases e with
   | returned v => exact he
   | panicked c => exact he
   | outgrown => exact absurd he hl
  | row row args =>
   refine ⟨(fun hq => nomatch hq), fun c cs _ => ?_⟩
   obtain ⟨v, w'', r, s⟩ := (h : Rows P row args w' _) c cs
   exact ⟨v, w'', r, by rw [fenced_inRound]; exact stepsIn_wide.2 s⟩
  | round l f tmps assign body => exact h.elim
  | _ => exact h.elim
 | halt x w' =>
  cases x <;> first | exact h | exact h.elim
theorem wpOps_in {P : Program} {l n : Nat} {ops : Array Oper} {Q : Exit → Act → World → Prop} (hd : ∀ o ∈ ops.toList, ∀ c, o.op ≠ .defer c) (hl : ¬ LetsOut Q) : ∀ (is : List Nat) (a : Act) (w : World), wpOps P ops Q is a w → wpOpsIn (Fence.wide.inRound l) n P ops Q is a w
 | [], a, w, h => h
 | i :: r, a, w, h => by
  unfold wpOps at h
  unfold wpOpsIn
  cases ho : ops[i]? with
  | none => rw [ho] at h; exact wpOps_in hd hl r a w h
  | some o =>
   rw [ho] at h
   simp only at h ⊢
   split
   ·rename_i hw
    rw [if_pos hw] at h
    rcases h with h | h
    ·exact Oper.wpIn_mono (fun a w => wpOps_in hd hl r a w) (wp_in (hd o (by
      have := Array.mem_of_getElem? ho
      simpa using this)) hl h)
    ·exact absurd h.2 hl
   ·rename_i hw
    rw [if_neg hw] at h
    exact ⟨fun _ _ => trivial, wpOps_in hd hl r _ w h⟩
theorem wpAny_in {P : Program} {l n : Nat} {ops : Array Oper} {Q : Exit → Act → World → Prop} (hd : ∀ o ∈ ops.toList, ∀ c, o.op ≠ .defer c) (hl : ¬ LetsOut Q) : ∀ (fuel : Nat) (listed : Array Bool) (a : Act) (w : World), wpAny P .any ops Q fuel listed a w → wpAnyIn (Fence.wide.inRound l) n P .any ops Q fuel listed a w
 | 0, _, a, w, h => h
 | fuel + 1, listed, a, w, h => by
  refine ⟨h.1, fun i hi => ?_⟩
  have h1 := h.2 i hi
  unfold wpOp at h1
  unfold wpOpIn
  cases ho : ops[i]? with
  | none => rw [ho] at h1; exact wpAny_in hd hl fuel _ a w h1
  | some o =>
   rw [ho] at h1
   simp only at h1 ⊢
   split
   ·rename_i hw
    rw [if_pos hw] at h1
    rcases h1 with h1 | h1
    ·exact Oper.wpIn_mono (fun a w => wpAny_in hd hl fuel _ a w) (wp_in (hd o (by
      have := Array.mem_of_getElem? ho
      simpa using this)) hl h1)
    ·exact absurd h1.2 hl
   ·rename_i hw
    rw [if_neg hw] at h1
    exact ⟨fun _ _ => trivial, wpAny_in hd hl fuel _ _ w h1⟩
def noDef (o : Oper) : Bool := match o.op with
 | .defer _ => false
 | _ => true
def plainC : Code → Bool
 | .seq a b => plainC a && plainC b
 | .cond _ a b => plainC a && plainC b
 | .block _ b => plainC b
 | .scope b => plainC b
 | .region _ ops _ => ops.toList.all noDef
 | _ => true
def plainI : Item → Bool
 | .code c => plainC c
 | _ => true
theorem all_c {x : Item} {k : List Item} (h : plainI x = true) (h2 : k.all plainI = true) : (x :: k).all plainI = true := by rw [List.all_cons, h, h2]; rfl
theorem noDef_ok {ops : Array Oper} (h : ops.toList.all noDef = true) : ∀ o ∈ ops.toList, ∀ c, o.op ≠ .defer c := fun o ho c e => by
 have := List.all_eq_true.1 h o ho
 simp [noDef, e] at this
theorem exitTo_app {id : Nat} {c : Code} : ∀ (k : List Item), exitTo id (k ++ [.code c]) = (exitTo id k).map (· ++ [.code c])
 | [] => by simp [exitTo]
 | x :: k => by
  have ih := exitTo_app (id := id) (c := c) k
  cases x <;> simp only [List.cons_append, exitTo] <;> first | exact ih | (split <;> simp [ih])
theorem exitTo_some {id : Nat} {kk : List Item} : ∀ {k k' : List Item}, exitTo id k = some k' → exitTo id (k ++ kk) = some (k' ++ kk)
 | [], _, h => by simp [exitTo] at h
 | x :: k, k', h => by
  cases x <;> simp only [exitTo, List.cons_append] at h ⊢ <;> first | exact exitTo_some h | (split at h; rename_i hq; injection h with h; subst h; rw [if_pos hq]; rename_i hq; rw [if_neg hq]; exact exitTo_some h)
theorem exitTo_all {id : Nat} : ∀ {k k' : List Item}, exitTo id k = some k' → k.all plainI = true → k'.all plainI = true
 | [], _, h, _ => by simp [exitTo] at h
 | x :: k, k', h, hp => by
  rw [List.all_cons, Bool.and_eq_true] at hp
  cases x <;> simp only [exitTo] at h <;> first | exact exitTo_all h hp.2 | (split at h; injection h with h; rw [← h]; exact hp.2; exact exitTo_all h hp.2)
section
variable {P : Program} {σ0 : Sg} {G0 : Nat → AB} {W : World} {l : Nat} {fn : Func}
theorem region_in {S : List Item → List AV → List AB → Prop} {Q : AV → List AB → Prop} {oc : Orc} {id n : Nat} {ops : Array Oper} {draw : Bool} {K : List AV → List AB → Tree} {env : List AV} {H : List AB} {a : Act} {w : World} (hm : P.follows .mixedOrders = true) (hd : ops.toList.all noDef = true)
  (hG : Good P S Q (aOps P oc draw ops.toList 0 ops.toList [] [] env H K)) (h3 : RS σ0 G0 W env H a w) : (Code.region id ops draw).wpIn (Fence.wide.inRound l) n P (fun e a' w' => e = .normal ∧ ∃ env' H', Good P S Q (K env' H') ∧ RS σ0 G0 W env' H' a' w') a w := by
 have hl : ¬ LetsOut (fun e (a' : Act) (w' : World) => e = Exit.normal ∧ ∃ env' H', Good P S Q (K env' H') ∧ RS σ0 G0 W env' H' a' w') := by
  rintro ⟨a, w, h, _⟩
  cases h
 cases draw with
 | false =>
  refine wpIn_region (wpOps_in (noDef_ok hd) hl _ _ _ ?_)
  have := ops_seq (P := P) (S := S) (Q := Q) (σ0 := σ0) (G0 := G0) (W := W) ops (fun e a' w' => e = .normal ∧ ∃ env' H', Good P S Q (K env' H') ∧ RS σ0 G0 W env' H' a' w') K (fun env H a w hg hs => ⟨rfl, env, H, hg, hs⟩) ops.toList 0 [] [] env H a w (by simp) hG h3
  simpa [List.range_eq_range'] using this
 | true =>
  refine wpIn_region_any hm (wpAny_in (noDef_ok hd) hl _ _ _ _ ?_)
  obtain ⟨T, env', H', hTr, hTl, hg⟩ := trace_of (P := P) (S := S) (Q := Q) (opsL := ops.toList) (env0 := env) (H0 := H) (K := K) ops.toList 0 [] [] env H [] (by simp) rfl rfl (fun j f h => by simp at h) .nil hG
  obtain ⟨A, e1, e2⟩ := hTr.all
  have hTl : T.length = ops.size := by simpa using hTl
  obtain ⟨σ, h4⟩ := h3.drew
  refine ops_draw ops A hTl _ (fun a w hs => ⟨rfl, env', H', hg, by rw [e1, e2]; exact hs⟩) ops.size (Array.replicate ops.size false) a _ (by simp) ?_ ?_ ⟨σ, ?_⟩
  ·have hc : ∀ n, cnt (fun k => (Array.replicate ops.size false).getD k false) n ≤ n := fun n => by
    induction n with
    | zero => exact Nat.le_refl _
    | succ n ih => unfold cnt; split <;> omega
   exact hc _
  ·intro k e _ h
   exfalso
   simp [Array.getElem?_replicate] at h
   split at h <;> simp at h
  ·have hz : ∀ k, (Array.replicate ops.size false).getD k false = false := fun k => by
    simp only [Array.getD_eq_getD_getElem?, Array.getElem?_replicate]
    split <;> rfl
   have hl : ∀ {α : Type} (Wr : Nat → Bool) (x : Nat → α) n, lastV (fun k => (Array.replicate ops.size false).getD k false) Wr x n = x 0 := fun Wr x n => by
    induction n with
    | zero => rfl
    | succ n ih => unfold lastV; rw [hz]; simpa using ih
   have hg : (fun b => lastV (fun k => (Array.replicate ops.size false).getD k false) (wrB T (2 * b + 1)) (xG H T b) T.length) = gv H := by
    funext b; rw [hl]; rfl
   refine ⟨fun b hb => .inl (h4.D b hb), h4.env.1.symm, fun t => ?_, by rw [hg]; exact h4.rel, by rw [hg]; exact h4.out, h4.defers⟩
   rw [hl (α := Sg → World → Value → Prop)]
   exact h4.env.2 t
theorem RS.mask {env : List AV} {H : List AB} {a : Act} {w : World} (lv : List Bool) (h : RS σ0 G0 W env H a w) : RS σ0 G0 W (maskE lv env) H a w := by
 obtain ⟨σ, h3⟩ := h
 refine ⟨σ, h3.D, ⟨(maskE_len lv env).trans h3.env.1, fun t => ?_⟩, h3.rel, h3.out, h3.defers⟩
 rcases maskE_key lv env t with e | e
 ·rw [e]; exact h3.env.2 t
 ·rw [e]; trivial
/-- Behind a body: a loop that stands for its end. -/
abbrev endL : Item := .code (.loop .skip)
theorem app_ne {k : List Item} {x y : Item} {b : Code} (h : .inLoop b :: (k ++ [x]) = [y]) : False := by
 injection h with _ h
 exact absurd h (by simp)
theorem round_of {oc : Orc} {lv : LV} {S : List AV → List AB → Prop} (hm : P.follows .mixedOrders = true) : ∀ (n : Nat) (todo : List Item) (env : List AV) (H : List AB), todo.all plainI = true → Good P (fun td E H' => td = [.inLoop .skip] ∧ S E H') (fun _ _ => False) (aRun P oc fn lv n (todo ++ [endL]) env H) →
  ∀ (b : Frame) (a : Act) (w : World) (cs : List Frame) (kk : List Item), b.roundOf = some l → RS σ0 G0 W env H a w → ∃ env' H' a' w', S env' H' ∧ RS σ0 G0 W env' H' a' w' ∧ Steps P (lone (b.atR a (todo ++ kk)) cs w) (lone (b.atR a' kk) cs w') := by
 intro n
 induction n with
 | zero =>
  intro todo env H hp hG
  obtain ⟨h, _⟩ := (hG : todo ++ [endL] = [.inLoop .skip] ∧ _)
  exfalso
  have := congrArg List.getLast? h
  simp at this
 | succ n ih =>
  intro todo env H hp hG b a w cs kk hb hs
  have go : ∀ {todo' : List Item} {env' : List AV} {H' : List AB} {a' : Act} {w' : World}, todo'.all plainI = true → Good P (fun td E H' => td = [.inLoop .skip] ∧ S E H') (fun _ _ => False) (aRun P oc fn lv n (todo' ++ [endL]) env' H') → RS σ0 G0 W env' H' a' w' → Steps P (lone (b.atR a (todo ++ kk)) cs w) (lone (b.atR a' (todo' ++ kk)) cs w') → ∃ env' H' a' w', S env' H' ∧ RS σ0 G0 W env' H' a' w' ∧ Steps P (lone (b.atR a (todo ++ kk)) cs w) (lone (b.atR a' kk) cs w') := fun hp' hG' hs' hst => by
   obtain ⟨e2, H2, a2, w2, q1, q2, q3⟩ := ih _ _ _ hp' hG' b _ _ cs kk hb hs'
   exact ⟨e2, H2, a2, w2, q1, q2, hst.trans q3⟩
  cases todo with
  | nil =>
   unfold aRun at hG
   obtain ⟨_, h⟩ := (hG : _ = _ ∧ S (maskE lv.mask env) H)
   exact ⟨_, _, a, w, h, hs.mask _, Steps.refl _ _⟩
  | cons it k =>
   rw [List.all_cons, Bool.and_eq_true] at hp
   obtain ⟨hp1, hp2⟩ := hp
   rw [List.cons_append] at hG
   unfold aRun at hG
   cases it with
   | code c =>
    cases c with
    | ret =>
     obtain ⟨r, hq, _⟩ := res_ok hG
     exact hq.elim
    | skip => exact go hp2 hG hs (.one stepR_skip)
    | label q => exact go hp2 hG hs (.one stepR_label)
    | seq x y =>
     have hp1 : plainC x = true ∧ plainC y = true := by simpa [plainI, plainC] using hp1
     exact go (todo' := .code x :: .code y :: k) (all_c hp1.1 (all_c hp1.2 hp2)) hG hs (.one stepR_seq)
    | cond c x y =>
     have hp1 : plainC x = true ∧ plainC y = true := by simpa [plainI, plainC] using hp1
     obtain ⟨t, ht, hG⟩ := good_onB hG
     have hc : a.eval c = .bool t := by
      obtain ⟨σ, h3⟩ := hs
      exact CA_bool ht (ev_ok h3.rel.glob h3.env c)
     cases t with
     | true => exact go (todo' := .code x :: k) (all_c hp1.1 hp2) hG hs (.one (stepR_cond hc))
     | false => exact go (todo' := .code y :: k) (all_c hp1.2 hp2) hG hs (.one (stepR_cond hc))
    | block id x => exact go (todo' := .code x :: .inBlock id :: k) (all_c (by simpa [plainI, plainC] using hp1) (all_c rfl hp2)) hG hs (.one stepR_block)
    | scope x => exact go (todo' := .code x :: .inScope x :: k) (all_c (by simpa [plainI, plainC] using hp1) (all_c rfl hp2)) hG hs (.one (step_lone_go (by simp [stepG, stepG.exec, Frame.atR])))
    | exit id =>
     simp only [exitTo_app] at hG
     cases hk : exitTo id k with
     | none => rw [hk] at hG; exact hG.elim
     | some k' =>
      rw [hk] at hG
      exact go (exitTo_all hk hp2) hG hs (.one (stepR_exit (exitTo_some hk)))
    | loop x =>
     obtain ⟨h, _⟩ := (hG : Item.inLoop x :: (k ++ [endL]) = [.inLoop .skip] ∧ _)
     exact (app_ne h).elim
    | region id ops draw =>
     simp only at hG
     split at hG
     ·obtain ⟨h, _⟩ := (hG : Item.code _ :: (k ++ [endL]) = [.inLoop .skip] ∧ _)
      cases h
     ·obtain ⟨e, a', w', ⟨rfl, env', H', hg, hs'⟩, harr⟩ := region_in (l := l) (id := id) (n := 0) hm (by simpa [plainI, plainC] using hp1) hG hs b (k ++ kk) cs hb trivial (room_wide _)
      have harr : StepsIn (Machine.fenced P (Fence.wide.inRound l)) P _ (lone (b.atR a' (k ++ kk)) cs w') := harr
      exact go hp2 hg hs' harr.steps
    | rangeFunc g ps x y =>
     obtain ⟨h, _⟩ := (hG : Item.code _ :: (k ++ [endL]) = [.inLoop .skip] ∧ _)
     cases h
    | _ => exact hG.elim
   | inBlock id => exact go hp2 hG hs (.one stepR_inBlock)
   | inScope x => exact go hp2 hG hs (.one (step_lone_go (by simp [stepG, stepG.exec, Frame.atR])))
   | inLoop x =>
    obtain ⟨h, _⟩ := (hG : Item.inLoop x :: (k ++ [endL]) = [.inLoop .skip] ∧ _)
    exact (app_ne h).elim
   | _ => exact hG.elim
end
end Go.Proofs.YtefkifdhjabdiaaDoor
namespace Go.Proofs.YtefkifdhjabdiaaDoor
set_option linter.unusedVariables false
set_option linter.unusedSimpArgs false
open Go.RowKit

theorem Out.trans {σ0 σ1 σ2 : Sg} {G0 G1 G2 : Nat → AB} {W w1 w2 : World} (h : Out σ0 G0 W σ1 G1 w1) (h' : Out σ1 G1 w1 σ2 G2 w2) : Out σ0 G0 W σ2 G2 w2 where
 chg := h.chg.trans h'.chg fun k hk hf => by
  obtain ⟨b, hb, rfl⟩ := hf
  rcases h.loc b hb with q | q
  ·exact q
  ·omega
 ext := h.ext.trans h'.ext
 loc := fun b hb => by
  rcases h'.loc b hb with ⟨c, hc, e⟩ | q
  ·rw [← e]; exact h.loc c hc
  ·exact .inr (Nat.le_trans h.chg.size q)
 R := fun k hk => by
  rcases h'.R k hk with q | q | ⟨c, hc, rfl⟩
  ·exact h.R k q
  ·exact .inr (.inl (Nat.le_trans h.chg.size q))
  ·rcases h.loc c hc with q | q
   ·exact .inr (.inr q)
   ·exact .inr (.inl q)
/-- An object that is no block of ours. -/
def isObj (o : Obj) : Bool := match o with
 | .cells .. => false
 | .map .. => false
 | _ => true
theorem Blk.not_obj {σ : Sg} {w : World} {b : Nat} {B : AB} (h : Blk σ w b B) (ha : B ≠ .dead) {o : Obj} (hd : w.heap[b]? = some o) (ho : isObj o = true) : False := by
 cases B with
 | dead => exact ha rfl
 | cells e cs => obtain ⟨c, hc, _⟩ := h; rw [hd] at hc; injection hc with hc; rw [hc] at ho; cases ho
 | vec e t xs => obtain ⟨c, hc, _⟩ := h; rw [hd] at hc; injection hc with hc; rw [hc] at ho; cases ho
 | ovec e t xs => obtain ⟨c, hc, _⟩ := h; rw [hd] at hc; injection hc with hc; rw [hc] at ho; cases ho
 | map k kt et n m =>
  obtain ⟨f, ⟨dd, ⟨es, clock, hc, _⟩, _⟩, _⟩ := h
  rw [hd] at hc; injection hc with hc; rw [hc] at ho; cases ho
theorem obj_off {σ : Sg} {G : Nat → AB} {w : World} {D : Nat} {o : Obj} (hr : RelG σ G w) (hD : w.heap[D]? = some o) (ho : isObj o = true) : ¬ fpAll σ G D := by
 rintro ⟨b, hb, rfl⟩
 exact (hr.blk b hb).not_obj hb hD ho
theorem put_ok {σ0 σ : Sg} {G0 G : Nat → AB} {W w : World} {D : Nat} {o : Obj} (hr : RelG σ G w) (hW : W.heap.size ≤ D) (hR : ¬ σ.R D) (hD : w.heap[D]? = some o) (hob : isObj o = true) (y : Obj) :
  Ext σ w σ (w.putObj D y) ∧ RelG σ G (w.putObj D y) ∧ (Out σ0 G0 W σ G w → Out σ0 G0 W σ G (w.putObj D y)) := by
 have hx : Ext σ w σ (w.putObj D y) := ⟨fun k h => ⟨h, rfl⟩, fun _ h => h, fun k hk _ => World.putObj_heap_other (by rintro rfl; exact hR hk), fun k c e fr h => ⟨c, fr, by
  rw [World.putObj_heap_other (by rintro rfl; rw [hD] at h; injection h with h; rw [h] at hob; cases hob)]; exact h, rfl⟩⟩
 refine ⟨hx, ⟨hr.dom, fun b hb => (hr.blk b hb).same hx (World.putObj_heap_other ?_), hr.inj, hr.out, fun k hk => by rw [World.putObj_size]; exact hr.rlt k hk, hr.glob.ext hx⟩, fun ho => ⟨⟨ho.chg.os, ho.chg.tape, ho.chg.output, by rw [World.putObj_size]; exact ho.chg.size, fun k hk hf => ?_⟩, ho.ext.trans hx, ho.loc, ho.R⟩⟩
 ·intro e
  exact (hr.blk b hb).not_obj hb (by rw [e]; exact hD) hob
 ·rw [World.putObj_heap_other (by omega)]
  exact ho.chg.block k hk hf
/-- A new object. -/
theorem new_ok {σ0 σ : Sg} {G0 G : Nat → AB} {W w : World} (hr : RelG σ G w) (y : Obj) :
  Ext σ w σ (w.alloc y) ∧ RelG σ G (w.alloc y) ∧ (Out σ0 G0 W σ G w → Out σ0 G0 W σ G (w.alloc y)) := by
 have hk : ∀ k, k < w.heap.size → (w.alloc y).heap[k]? = w.heap[k]? := fun k hk => Below.heap_alloc w y k hk
 have hx : Ext σ w σ (w.alloc y) := ⟨fun k h => ⟨h, rfl⟩, fun _ h => h, fun k hq _ => hk k (hr.rlt k hq), fun k c e fr h => ⟨c, fr, by rw [hk k (Array.getElem?_eq_some_iff.1 h).1]; exact h, rfl⟩⟩
 refine ⟨hx, ⟨hr.dom, fun b hb => (hr.blk b hb).same hx (hk _ ((hr.blk b hb).lt hb)), hr.inj, hr.out, fun k hq => by rw [World.size_alloc]; have := hr.rlt k hq; omega, hr.glob.ext hx⟩, fun ho => ⟨⟨ho.chg.os, ho.chg.tape, ho.chg.output, by rw [World.size_alloc]; have := ho.chg.size; omega, fun k hq hf => ?_⟩, ho.ext.trans hx, ho.loc, ho.R⟩⟩
 rw [hk k (Nat.lt_of_lt_of_le hq ho.chg.size)]
 exact ho.chg.block k hq hf
/-- Blocks beyond the first ones are given up. -/
theorem keepG {σ : Sg} {H : List AB} {w : World} (gl : List Nat) (hnd : gl.Nodup) (h3 : RelG σ (gv H) w) : RelG (renS gl σ) (gv (gl.map (fun b => renB gl (rgv H b)))) w ∧ ∀ k, gv (gl.map (fun b => renB gl (rgv H b))) k ≠ .dead → k < gl.length ∧ gv H (gl.getD k 0) ≠ .dead := by
 have gk : ∀ k, gv (gl.map (fun b => renB gl (rgv H b))) k ≠ .dead → k < gl.length ∧ gv H (gl.getD k 0) ≠ .dead ∧ gv (gl.map (fun b => renB gl (rgv H b))) k = renB gl (gv H (gl.getD k 0)) := fun k hk => by
  by_cases hl : k < gl.length
  ·have e : gv (gl.map (fun b => renB gl (rgv H b))) k = renB gl (gv H (gl.getD k 0)) := by
    rw [gv_rgv H, ← nrm_renB]
    refine gv_some ?_
    simp [List.getElem?_map, List.getElem?_eq_getElem hl, List.getD_eq_getElem?_getD]
   refine ⟨hl, fun hd => hk ?_, e⟩
   rw [e, hd]; rfl
  ·exact absurd (gv_none (by rw [List.getElem?_map, List.getElem?_eq_none (Nat.le_of_not_lt hl)]; rfl)) hk
 refine ⟨⟨fun b hb => ?_, fun b hb => ?_, fun b b' hb hb' he => ?_, fun b hb => ?_, h3.rlt, h3.glob⟩, fun k hk => ⟨(gk k hk).1, (gk k hk).2.1⟩⟩
 ·obtain ⟨hl, hd, _⟩ := gk b hb
  exact ⟨hl, h3.dom _ hd⟩
 ·obtain ⟨hl, hd, e⟩ := gk b hb
  rw [e]
  exact renB_ok (h3.blk _ hd)
 ·obtain ⟨hl, hd, _⟩ := gk b hb
  obtain ⟨hl', hd', _⟩ := gk b' hb'
  have := h3.inj _ _ hd hd' he
  rw [List.getD_eq_getElem?_getD, List.getD_eq_getElem?_getD, List.getElem?_eq_getElem hl, List.getElem?_eq_getElem hl'] at this
  have hp := List.pairwise_iff_getElem.1 hnd
  rcases Nat.lt_trichotomy b b' with h | h | h
  ·exact absurd this (hp b b' hl hl' h)
  ·exact h
  ·exact absurd this.symm (hp b' b hl' hl h)
 ·obtain ⟨hl, hd, _⟩ := gk b hb
  exact h3.out _ hd
theorem keepO {σ0 σ : Sg} {G0 : Nat → AB} {W w : World} {H : List AB} (gl : List Nat) (h0 : ∀ k, σ0.D k → gl[k]? = some k) (hg : ∀ k, gv (gl.map (fun b => renB gl (rgv H b))) k ≠ .dead → k < gl.length ∧ gv H (gl.getD k 0) ≠ .dead) (h3 : Out σ0 G0 W σ (gv H) w) : Out σ0 G0 W (renS gl σ) (gv (gl.map (fun b => renB gl (rgv H b)))) w := by
 refine ⟨h3.chg, ⟨fun k hk => ?_, h3.ext.R, h3.ext.keep, h3.ext.shape⟩, fun b hb => ?_, h3.R⟩
 ·have hk0 := h0 k hk
  obtain ⟨h4, h5⟩ := h3.ext.ι k hk
  have e : gl.getD k 0 = k := by simp [List.getD_eq_getElem?_getD, hk0]
  exact ⟨⟨(List.getElem?_eq_some_iff.1 hk0).1, by rw [e]; exact h4⟩, by simp only [renS, e]; exact h5⟩
 ·exact h3.loc _ (hg b hb).2
theorem keepE {σ : Sg} {w : World} {env : List AV} {tm : Array Value} (gl : List Nat) (he : env.map (renA gl) = env) (h : EnvR σ w env tm) : EnvR (renS gl σ) w env tm := by
 refine ⟨h.1, fun t => ?_⟩
 have e2 : (env.map (renA gl)).getD t .junk = renA gl (env.getD t .junk) := by
  simp only [List.getD_eq_getElem?_getD, List.getElem?_map]
  cases env[t]? <;> rfl
 have h1 := renA_ok (gl := gl) (h.2 t)
 rw [← e2, he] at h1
 exact h1
/-- A block that is none of ours turns alike in both worlds. -/
theorem out_both {σ σ1 : Sg} {G G1 : Nat → AB} {w w1 : World} {l : Nat} {o y : Obj} (h : Out σ G w σ1 G1 w1) (hl : w.heap[l]? = some o) (hR : ¬ σ.R l) (hy : isObj y = true) : Out σ G (w.putObj l y) σ1 G1 (w1.putObj l y) := by
 have hlt := (Array.getElem?_eq_some_iff.1 hl).1
 have hlt1 : l < w1.heap.size := Nat.lt_of_lt_of_le hlt h.chg.size
 refine ⟨⟨h.chg.os, h.chg.tape, h.chg.output, by rw [World.putObj_size, World.putObj_size]; exact h.chg.size, fun k hk hf => ?_⟩, ⟨h.ext.ι, h.ext.R, fun k hk hq => ?_, fun k c e fr hq => ?_⟩, fun b hb => by rw [World.putObj_size]; exact h.loc b hb, fun k hk => by rw [World.putObj_size]; exact h.R k hk⟩
 ·rw [World.putObj_size] at hk
  by_cases e : k = l
  ·subst e; rw [World.putObj_heap_same hlt, World.putObj_heap_same hlt1]
  ·rw [World.putObj_heap_other e, World.putObj_heap_other e]; exact h.chg.block k hk hf
 ·rw [World.putObj_size] at hq
  have e : k ≠ l := by rintro rfl; exact hR hk
  rw [World.putObj_heap_other e, World.putObj_heap_other e]; exact h.ext.keep k hk hq
 ·have hne : k ≠ l := by
   rintro rfl
   rw [World.putObj_heap_same hlt] at hq
   injection hq with hq
   rw [hq] at hy; cases hy
  rw [World.putObj_heap_other hne] at hq ⊢
  exact h.ext.shape k c e fr hq
/-- Where a variable's block stands, and which slice it holds. -/
def ReadsAt (u : Ty) (σ : Sg) (W : World) (pv : Value) (xs : List u.El) : Prop := ∃ A sv, pv = .pointer (some ⟨A, 0, none⟩) ∧ W.cell? ⟨A, 0, none⟩ = some sv ∧ (Rd.slice u.rd).K σ.R W xs [sv]
/-- An iterator over a read slice, from its end: its rounds are asked one by one. -/
def BackC (P : Program) (gf : Nat) (u : Ty) : Prop := ∀ (l : Nat) (xs : List u.El) (pv : Value) (J : Nat → World → Sg → Prop),
 (∀ k W σ, k ≤ xs.length → J k W σ → ReadsAt u σ W pv xs) →
 (∀ k W σ cs, k < xs.length → J k W σ → u.rd.K σ.R W (xs.getD (xs.length - 1 - k) u.dflt) cs → YieldAt Fence.wide 1 P l #[.int .i64 ((xs.length - 1 - k : Nat) : Int), .agg cs.toArray] W fun e W' => e = .returned (.bool true) ∧ ∃ σ', J (k + 1) W' σ') →
 ∀ W σ, J 0 W σ → CallsIn Fence.wide 2 P gf #[.func (.yield l) #[] #[], pv] W fun e W' => (∃ v, e = .returned v) ∧ ∃ σ', J xs.length W' σ'
section
variable {P : Program} {f : FuncId}
theorem RunN.rangeBack {n0 : Nat} {Q : AV → List AB → Prop} {tg pi px : Tmp} {assign body : Code} {k : List Item} {env : List AV} {H : List AB} {gf : Nat} {u : Ty} {xs : List u.El} {fn : Func} (oc : Orc) (lv : LV) (n : Nat) (hm : P.follows .mixedOrders = true)
  (hB : BackC P gf u) (hpa : plainC assign = true) (hpb : plainC body = true) {kb : Nat} {tb : TypeId} (hg : env.getD tg .junk = .one (.c (.fnc (.fn0 gf) (.ptr kb 0 0 0)))) (hen : ∀ args w, (callFunc gf args).run P w = .ok (.enter gf args) w)
  (Hs : Nat → List AB) (hkb : ∀ i, i ≤ xs.length → (Hs i)[kb]? = some (.cells tb [.ro u xs])) (hH0 : Hs 0 = H) (hlen : ∀ i, (Hs i).length = H.length) (hn0 : n0 ≤ H.length) (henv : env.map (renA (List.range H.length)) = env) (hi64 : ∀ i : Nat, i < xs.length → inR .i64 (i : Int))
  (hround : ∀ i, i < xs.length → Good P (fun td E1 H1 => td = [.inLoop .skip] ∧ Good P (fun td E2 H2 => td = [.inLoop .skip] ∧ (List.range H.length).map (fun b => renB (List.range H.length) (rgv H2 b)) = Hs (i + 1)) (fun _ _ => False) (aRun P oc fn lv n ([.code body] ++ [endL]) E1 H1)) (fun _ _ => False) (aRun P oc fn lv n ([.code assign] ++ [endL]) ((env.set pi (.c (.int .i64 ((xs.length - 1 - i : Nat) : Int)))).set px (.agg (u.enc (xs.getD (xs.length - 1 - i) u.dflt)))) (Hs i)))
  (hrest : RunN n0 P f Q k env (Hs xs.length)) : RunN n0 P f Q (.code (.rangeFunc (.tmp tg) #[pi, px] assign body) :: k) env H := by
 intro σ0 G0 W b a w cs h0 h1 h2 h3
 obtain ⟨σ, h3⟩ := h3
 have hgv := h3.env.2 tg
 rw [hg] at hgv
 obtain ⟨gfv, gcs, pv, egv, hgf, hpv⟩ := hgv
 have hgf : Value.func (.func gfv) #[] gcs = .func (.func gf) #[] #[] := hgf
 injection hgf with e1 e2 e3
 injection e1 with e1
 subst e1; subst e3
 have key : (Code.rangeFunc (.tmp tg) #[pi, px] assign body).wpIn Fence.wide 3 P (fun e a' w' => e = .normal ∧ RS σ0 G0 W env (Hs xs.length) a' w') a w := by
  refine wpIn_rangeFunc fun fn' _ => ?_
  -- the record
  obtain ⟨rec, hrec⟩ : ∃ rec : LoopState → Option Code → Loop, rec = fun st pe => { state := st, pending := pe, fn := fn', tmps := a.tmps, params := #[pi, px], assign, body, defers := w.heap.size } := ⟨_, rfl⟩
  obtain ⟨W1, hW1⟩ : ∃ W1, (w.alloc (.deferred (some []))).alloc (.loop (rec .ready none)) = W1 := ⟨_, rfl⟩
  have hWw := h3.out.chg.size
  have hsz1 : W1.heap.size = w.heap.size + 2 := by rw [← hW1]; simp
  have hL1 : W1.heap[w.heap.size + 1]? = some (.loop (rec .ready none)) := by
   rw [← hW1]; have := World.alloc_heap_new (w.alloc (.deferred (some []))) (.loop (rec .ready none)); rwa [World.size_alloc] at this
  have hK1 : W1.heap[w.heap.size]? = some (.deferred (some [])) := by
   rw [← hW1]; exact (Below.heap_alloc _ _ _ (by simp)).trans (World.alloc_heap_new w _)
  have hlow : ∀ j, j < w.heap.size → W1.heap[j]? = w.heap[j]? := fun j hj => by
   rw [← hW1, Below.heap_alloc _ _ _ (by rw [World.size_alloc]; omega), Below.heap_alloc _ _ _ hj]
  obtain ⟨x1, r1, o1⟩ := new_ok (σ0 := σ0) (G0 := G0) (W := W) h3.rel (.deferred (some []))
  obtain ⟨x2, r2, o2⟩ := new_ok (σ0 := σ0) (G0 := G0) (W := W) r1 (.loop (rec .ready none))
  rw [hW1] at x2 r2 o2
  have hDlt : ∀ d ∈ a.defers, ∀ D, d = ({ target := .collected D, args := #[] } : Deferred) → D < w.heap.size := fun d hd D e => by
   obtain ⟨D', e', _, _, hD'⟩ := h3.defers.2 d hd
   rw [e] at e'
   injection e' with e'
   injection e' with e'
   rw [e']; exact (Array.getElem?_eq_some_iff.1 hD').1
  -- the invariant
  obtain ⟨J, hJ⟩ : ∃ J : Nat → World → Sg → Prop, J = fun i W' σ' => (∀ c, σ'.D c → c < H.length) ∧ EnvR σ' W' env a.tmps ∧ RelG σ' (gv (Hs i)) W' ∧ Out σ0 G0 W σ' (gv (Hs i)) W' ∧ DefOk σ' W a.defers W' ∧ ¬ σ'.R w.heap.size ∧ ¬ σ'.R (w.heap.size + 1) ∧ W'.heap[w.heap.size + 1]? = some (.loop (rec .ready none)) ∧ W'.heap[w.heap.size]? = some (.deferred (some [])) := ⟨_, rfl⟩
  have hJ0 : J 0 W1 σ := by
   rw [hJ]
   refine ⟨fun c hc => h3.D c hc, (h3.env.ext x1).ext x2, by rw [hH0]; exact r2, by rw [hH0]; exact o2 (o1 h3.out), ⟨h3.defers.1, fun d hd => ?_⟩, fun hq => ?_, fun hq => ?_, hL1, hK1⟩
   ·obtain ⟨D, e, q1, q2, q3⟩ := h3.defers.2 d hd
    exact ⟨D, e, q1, q2, (hlow D (Array.getElem?_eq_some_iff.1 q3).1).trans q3⟩
   ·have := h3.rel.rlt _ hq; omega
   ·have := h3.rel.rlt _ hq; omega
  have hpro : ∀ i W' σ', i ≤ xs.length → J i W' σ' → ReadsAt u σ' W' pv xs := fun i W' σ' hi hj => by
   rw [hJ] at hj
   have hq := hj.2.1.2 tg
   rw [hg, egv] at hq
   obtain ⟨f', cs', u', ev, _, _, hq⟩ := hq
   injection ev with _ _ ev
   have hu : u' = pv := by
    have := congrArg Array.back? ev
    simpa using this.symm
   rw [hu] at hq
   have hgv : gv (Hs i) kb = .cells tb [.ro u xs] := gv_of (hkb i hi)
   have hB := hj.2.2.1.blk kb (by rw [hgv]; simp)
   rw [hgv] at hB
   obtain ⟨c, hc, hcs⟩ := hB
   obtain ⟨sv, r, e1, hsv, hr⟩ := hcs.cons_of
   have hr0 : r = [] := List.eq_nil_of_length_eq_zero hr.1.symm
   refine ⟨σ'.ι kb, sv, by rw [hq], ?_, hsv⟩
   have e2 : c = #[sv] := by apply Array.toList_inj.1; rw [e1, hr0]
   simp [World.cell?, hc, e2]
  have hyield : ∀ i W' σ' vs, i < xs.length → J i W' σ' → u.rd.K σ'.R W' (xs.getD (xs.length - 1 - i) u.dflt) vs → YieldAt Fence.wide 1 P (w.heap.size + 1) #[.int .i64 ((xs.length - 1 - i : Nat) : Int), .agg vs.toArray] W' fun e W2 => e = .returned (.bool true) ∧ ∃ σ2, J (i + 1) W2 σ2 := fun i W' σ' vs hi hj hK => by
   rw [hJ] at hj
   obtain ⟨jD, jE, jR, jO, jF, jd, jl, jL, jK⟩ := hj
   have hy := run_yield (P := P) (args := #[.int .i64 ((xs.length - 1 - i : Nat) : Int), .agg vs.toArray]) jL (by rw [hrec]; rfl)
   rw [hrec] at hy
   refine ⟨fn', _, assign, body, hy, trivial, fun c ds _ => ?_⟩
   obtain ⟨b1, hb1⟩ : ∃ b1 : Frame, b1 = { (default : Frame) with fn := fn', kind := .normal, roundOf := some (w.heap.size + 1) } := ⟨_, rfl⟩
   obtain ⟨a0, ha0⟩ : ∃ a0 : Act, a0 = ⟨(a.tmps.setIfInBounds pi (.int .i64 ((xs.length - 1 - i : Nat) : Int))).setIfInBounds px (.agg vs.toArray), []⟩ := ⟨_, rfl⟩
   have hfr : Frame.round (w.heap.size + 1) fn' ((#[pi, px].zip #[.int .i64 ((xs.length - 1 - i : Nat) : Int), .agg vs.toArray]).foldl (fun tmps (t, v) => tmps.setIfInBounds t v) a.tmps) assign body .normal = b1.atR a0 ([.code assign] ++ [.beginRound, .code body]) := by
    rw [hb1, ha0]; simp [Frame.round, Frame.atR]
   have hput : EnvR σ' W' ((env.set pi (.c (.int .i64 ((xs.length - 1 - i : Nat) : Int)))).set px (.agg (u.enc (xs.getD (xs.length - 1 - i) u.dflt)))) a0.tmps := by
    have p1 := EnvR.put (a := a) (dst := some pi) (v := .c (.int .i64 ((xs.length - 1 - i : Nat) : Int))) (x := .int .i64 ((xs.length - 1 - i : Nat) : Int)) jE ⟨rfl, hi64 _ (by omega)⟩
    have p2 := EnvR.put (a := a.put (some pi) (.int .i64 ((xs.length - 1 - i : Nat) : Int))) (dst := some px) (v := .agg (u.enc (xs.getD (xs.length - 1 - i) u.dflt))) (x := .agg vs.toArray) p1 ⟨_, rfl, by simpa using rd_enc u hK⟩
    rw [ha0]
    exact p2
   obtain ⟨E1, H1, a1, w1, hS1, ⟨σ1, q1⟩, st1⟩ := round_of (l := w.heap.size + 1) (S := fun E1 H1 => Good P (fun td E2 H2 => td = [.inLoop .skip] ∧ (List.range H.length).map (fun b => renB (List.range H.length) (rgv H2 b)) = Hs (i + 1)) (fun _ _ => False) (aRun P oc fn lv n ([.code body] ++ [endL]) E1 H1)) hm n [.code assign] _ (Hs i) (by simp [plainI, hpa]) (hround i hi) b1 a0 W' (c :: ds) [.beginRound, .code body] (by rw [hb1]) ⟨σ', fun c hc => by rw [hlen]; exact jD c hc, hput, jR, Out.refl, by rw [ha0]; exact DefOk.nil⟩
   have offl := obj_off jR jL rfl
   have offK := obj_off jR jK rfl
   have ltl := (Array.getElem?_eq_some_iff.1 jL).1
   have ltK := (Array.getElem?_eq_some_iff.1 jK).1
   have L1 := (q1.out.chg.block _ ltl offl).trans jL
   have K1 := (q1.out.chg.block _ ltK offK).trans jK
   have nl1 : ¬ σ1.R (w.heap.size + 1) := fun hq => by
    rcases q1.out.R _ hq with z | z | z
    ·exact jl z
    ·omega
    ·exact offl z
   have nd1 : ¬ σ1.R w.heap.size := fun hq => by
    rcases q1.out.R _ hq with z | z | z
    ·exact jd z
    ·omega
    ·exact offK z
   have hbr := run_beginRound (P := P) L1 (by rw [hrec])
   obtain ⟨x3, r3, _⟩ := put_ok (σ0 := σ0) (G0 := G0) (W := W) q1.rel (by omega) nl1 L1 rfl (.loop { rec .ready none with state := .busy })
   obtain ⟨x4, r4, o4⟩ := put_ok (σ0 := σ0) (G0 := G0) (W := W) jR (by omega) jl jL rfl (.loop { rec .ready none with state := .busy })
   have ob := out_both (y := .loop { rec .ready none with state := .busy }) q1.out jL jl rfl
   obtain ⟨E2, H2, a2, w2, hS2, ⟨σ2, q2⟩, st2⟩ := round_of (l := w.heap.size + 1) (S := fun E2 H2 => (List.range H.length).map (fun b => renB (List.range H.length) (rgv H2 b)) = Hs (i + 1)) hm n [.code body] E1 H1 (by simp [plainI, hpb]) hS1 b1 a1 _ (c :: ds) [] (by rw [hb1]) ⟨σ1, q1.D, q1.env.ext x3, r3, ob, ⟨q1.defers.1, fun d hd => by
    obtain ⟨D, e, z1, z2, z3⟩ := q1.defers.2 d hd
    refine ⟨D, e, by rw [World.putObj_size]; exact z1, z2, ?_⟩
    rw [World.putObj_heap_other (by rintro rfl; rw [L1] at z3; cases z3)]; exact z3⟩⟩
   have jL' : (W'.putObj (w.heap.size + 1) (.loop { rec .ready none with state := .busy })).heap[w.heap.size + 1]? = some (.loop { rec .ready none with state := .busy }) := World.putObj_heap_same ltl
   have jK' : (W'.putObj (w.heap.size + 1) (.loop { rec .ready none with state := .busy })).heap[w.heap.size]? = some (.deferred (some [])) := (World.putObj_heap_other (by omega)).trans jK
   have L2 := (q2.out.chg.block _ (by rw [World.putObj_size]; exact ltl) (obj_off r4 jL' rfl)).trans jL'
   have K2 := (q2.out.chg.block _ (by rw [World.putObj_size]; exact ltK) (obj_off r4 jK' rfl)).trans jK'
   have nl2 : ¬ σ2.R (w.heap.size + 1) := fun hq => by
    rcases q2.out.R _ hq with z | z | z
    ·exact jl z
    ·rw [World.putObj_size] at z; omega
    ·exact obj_off r4 jL' rfl z
   have nd2 : ¬ σ2.R w.heap.size := fun hq => by
    rcases q2.out.R _ hq with z | z | z
    ·exact jd z
    ·rw [World.putObj_size] at z; omega
    ·exact obj_off r4 jK' rfl z
   have hend := run_endRound (P := P) none L2
   obtain ⟨x5, r5, o5⟩ := put_ok (σ0 := σ0) (G0 := G0) (W := W) q2.rel (by omega) nl2 L2 rfl (.loop (rec .ready none))
   have he2 : (Instr.endRound (w.heap.size + 1) none).run P w2 = .ok (.bool true) (w2.putObj (w.heap.size + 1) (.loop (rec .ready none))) := by
    rw [hend, hrec]; rfl
   have oall := o5 ((o4 jO).trans q2.out)
   have henvall := ((jE.ext x4).ext q2.out.ext).ext x5
   obtain ⟨kr, kg⟩ := keepG (List.range H.length) List.nodup_range r5
   have kO := keepO (List.range H.length) (fun z hz => by rw [List.getElem?_range (Nat.lt_of_lt_of_le (h0 z hz) hn0)]) kg oall
   rw [hS2] at kr kO
   refine ⟨.returned (.bool true), w2.putObj (w.heap.size + 1) (.loop (rec .ready none)), ⟨rfl, renS (List.range H.length) σ2, ?_⟩, ?_⟩
   ·rw [hJ]
    refine ⟨fun z hz => by simpa using hz.1, keepE _ henv henvall, kr, kO, ⟨jF.1, fun d hd => ?_⟩, nd2, nl2, World.putObj_heap_same (Array.getElem?_eq_some_iff.1 L2).1, (World.putObj_heap_other (by omega)).trans K2⟩
    obtain ⟨D, e, z1, z2, z3⟩ := jF.2 d hd
    have hDl := hDlt d hd D e
    have z3' : (W'.putObj (w.heap.size + 1) (.loop { rec .ready none with state := .busy })).heap[D]? = some (.deferred (some [])) := (World.putObj_heap_other (by omega)).trans z3
    have hDs := (Array.getElem?_eq_some_iff.1 z3').1
    refine ⟨D, e, z1, fun hq => ?_, ?_⟩
    ·rcases q2.out.R _ hq with z | z | z
     ·exact z2 z
     ·omega
     ·exact obj_off r4 z3' rfl z
    ·rw [World.putObj_heap_other (by omega)]
     exact (q2.out.chg.block D hDs (obj_off r4 z3' rfl)).trans z3'
   ·rw [hfr]
    have s1 : Steps P (lone (b1.atR a1 [.beginRound, .code body]) (c :: ds) w1) (lone (b1.atR a1 [.code body]) (c :: ds) (w1.putObj (w.heap.size + 1) (.loop { rec .ready none with state := .busy }))) := .one (stepR_beginRound (by rw [hb1]) hbr)
    have s2 : Steps P (lone (b1.atR a2 []) (c :: ds) w2) (lone (c.finish (.bool true)) ds (w2.putObj (w.heap.size + 1) (.loop (rec .ready none)))) := .one (stepR_round_end (by rw [hb1]) (by rw [hb1]) he2)
    exact stepsIn_wide.2 ((st1.trans s1).trans (st2.trans s2))
  have hcall := hB (w.heap.size + 1) xs pv J hpro hyield W1 σ hJ0
  refine ⟨w.heap.size + 1, [{ target := .collected w.heap.size, args := #[] }], W1, { target := .fn (.func gfv) #[pv], args := #[.func (.yield (w.heap.size + 1)) #[] #[]] }, W1, gfv, #[.func (.yield (w.heap.size + 1)) #[] #[]] ++ #[pv], W1, ?_, ?_, fun _ _ => trivial, ?_, (fun hq => nomatch hq), hcall.mono ?_⟩
  ·rw [← hW1, hrec]; exact run_enterLoop_outer _ _ _ _ _
  ·simp only [resolve, show a.eval (.tmp tg) = .func (.func gfv) #[] (#[].push pv) from egv]
   simp [go_sem]
  ·simp [invoke, go_sem, hen]
  ·rintro e W2 ⟨⟨v, rfl⟩, σ2, hj⟩
   rw [hJ] at hj
   obtain ⟨jD, jE, jR, jO, jF, jd, jl, jL, jK⟩ := hj
   obtain ⟨x6, r6, o6⟩ := put_ok (σ0 := σ0) (G0 := G0) (W := W) jR (by omega) jl jL rfl (.loop { rec .ready none with state := .exhausted })
   refine ⟨none, _, by have := run_endLoop (P := P) jL (by rw [hrec]; simp); rw [hrec] at this ⊢; exact this, ⟨rfl, σ2, fun z hz => by rw [hlen]; exact jD z hz, jE.ext x6, r6, o6 jO, ?_⟩⟩
   refine ⟨List.nodup_cons.2 ⟨fun hmem => ?_, jF.1⟩, fun d hd => ?_⟩
   ·have := hDlt _ hmem _ rfl; omega
   ·rcases List.mem_cons.1 hd with rfl | hd
    ·exact ⟨w.heap.size, rfl, hWw, jd, (World.putObj_heap_other (by omega)).trans jK⟩
    ·obtain ⟨D, e, z1, z2, z3⟩ := jF.2 d hd
     have := hDlt d hd D e
     exact ⟨D, e, z1, z2, (World.putObj_heap_other (by omega)).trans z3⟩
 obtain ⟨e, a', w', ⟨rfl, hrs⟩, harr⟩ := (wpIn_wide.1 key) b k cs
 obtain ⟨v, w2, fr, r, H2, σ', q1, q2, q3, q4, q5, q6, q7⟩ := hrest σ0 G0 W b a' w' cs h0 h1 h2 hrs
 exact ⟨v, w2, fr, r, H2, σ', q1, q2, q3, q4, q5, harr.trans q6, q7⟩
end
end Go.Proofs.YtefkifdhjabdiaaDoor
namespace Go.Proofs.YtefkifdhjabdiaaDoor
set_option linter.unusedVariables false
set_option linter.unusedSimpArgs false
open Go.RowKit Go.Shelf
set_option maxRecDepth 100000 in
set_option maxHeartbeats 2000000 in
theorem back_ins : BackC Tryd.prog 89 tIns := by
 intro l xs pv J hr hy W σ h0
 obtain ⟨A, sv0, rfl, hx0, hK0⟩ := hr 0 W σ (Nat.zero_le _) h0
 clear hx0
 have hlen : xs.length ≤ 9223372036854775807 := by
  obtain ⟨A2, c2, esv, a1, b1, d1, C1⟩ := hK0
  exact C1.2.1
 have hread : ∀ k W' σ', k ≤ xs.length → J k W' σ' → ∃ A2 c2, W'.cell? ⟨A, 0, none⟩ = some (.slice A2 xs.length c2) ∧ tIns.rd.C σ'.R W' A2 xs.length xs := fun k W' σ' hk hj => by
  obtain ⟨A', sv, e, hc, hK⟩ := hr k W' σ' hk hj
  injection e with e
  injection e with e
  injection e with e _ _
  subst e
  obtain ⟨A2, c2, esv, a1, b1, d1, C1⟩ := hK
  injection esv with esv _
  exact ⟨A2, c2, by rw [hc, esv], C1⟩
 obtain ⟨A2, c2, hc0, _⟩ := hread 0 W σ (Nat.zero_le _) h0
 clear hK0 hr
 refine callsIn_of_wp Tryd.func89 rfl trivial ?_ rfl
 simp only [Tryd.ntmps89, List.size_toArray, List.length_cons, List.length_nil, Nat.reduceAdd, Nat.reduceSub, Array.replicate_succ, Array.replicate_zero, List.push_toArray, List.append_toArray, List.nil_append, List.cons_append]
 gi_wp2
 gi_loopw [3] (fun p wr => ∃ k : Nat, k ≤ xs.length ∧ p = .int .i64 ((xs.length : Int) - 1 - k) ∧ ∃ σ', J k wr σ') (fun p _ => (intOf p + 1).toNat)
 case atStart =>
  exact ⟨0, Nat.zero_le _, by simp, σ, h0⟩
 case round =>
  obtain ⟨k, hk, hp, σ', hj⟩ := hrel
  clear hc0
  obtain ⟨A3, c3, hc, hC⟩ := hread k wr σ' hk hj
  by_cases hlt : k < xs.length
  ·obtain ⟨m, hm⟩ : ∃ m : Nat, xs.length - 1 - k = m := ⟨_, rfl⟩
   have e : (xs.length : Int) - 1 - k = (m : Int) := by omega
   rw [e] at hp
   subst hp
   have hml : m < xs.length := by omega
   obtain ⟨x, hx⟩ : ∃ x, xs[m]? = some x := ⟨_, List.getElem?_eq_getElem hml⟩
   obtain ⟨ad, cs, rfl, _, had, hKx, hx0, hx1⟩ := hC.elem m x hx
   have hY := hy k wr σ' cs hlt hj (by rw [hm, List.getD_eq_getElem?_getD, hx]; exact hKx)
   rw [hm] at hY
   obtain ⟨_, _, rfl, ⟨rfl, i0⟩, _, _, rfl, ⟨rfl, i1⟩, _, _, rfl, ⟨rfl, i2⟩, _, _, rfl, ⟨rfl, i3⟩, _, _, rfl, ⟨rfl, i4⟩, _, _, rfl, ⟨rfl, i5⟩, _, _, rfl, ⟨rfl, i6⟩, ⟨rfl, i7⟩⟩ := hKx
   simp only [List.cons_append, List.nil_append] at hx0 hx1 hY
   obtain ⟨fn, tmps, assign, body, hyr, hR⟩ := hY
   have f0 : wr.cell? (ad.add (m * 8)) = some (.int .i64 x.1) := hx0 _ rfl
   have f1 : wr.cell? ⟨(ad.add (m * 8)).block, (ad.add (m * 8)).off + 1, none⟩ = some (.int .i64 x.2.1) := hx1 0 _ rfl
   have f2 : wr.cell? ⟨(ad.add (m * 8)).block, (ad.add (m * 8)).off + 2, none⟩ = some (.int .i64 x.2.2.1) := hx1 1 _ rfl
   have f3 : wr.cell? ⟨(ad.add (m * 8)).block, (ad.add (m * 8)).off + 3, none⟩ = some (.int .i64 x.2.2.2.1) := hx1 2 _ rfl
   have f4 : wr.cell? ⟨(ad.add (m * 8)).block, (ad.add (m * 8)).off + 4, none⟩ = some (.int .i64 x.2.2.2.2.1) := hx1 3 _ rfl
   have f5 : wr.cell? ⟨(ad.add (m * 8)).block, (ad.add (m * 8)).off + 5, none⟩ = some (.int .i64 x.2.2.2.2.2.1) := hx1 4 _ rfl
   have f6 : wr.cell? ⟨(ad.add (m * 8)).block, (ad.add (m * 8)).off + 6, none⟩ = some (.int .i64 x.2.2.2.2.2.2.1) := hx1 5 _ rfl
   have f7 : wr.cell? ⟨(ad.add (m * 8)).block, (ad.add (m * 8)).off + 7, none⟩ = some (.int .i64 x.2.2.2.2.2.2.2) := hx1 6 _ rfl
   clear hx0 hx1 hC
   gi_wp2
   refine hR.mono ?_
   rintro e2 W3 ⟨rfl, σ2, hj2⟩
   gi_wp2
   go_roundw
   case rel => exact ⟨k + 1, by omega, by first | (rw [← e]; done) | (rw [← e]; congr 1; done) | (rw [← e]; congr 1; omega), σ2, hj2⟩
   case measure => first | (simp [intOf]; done) | (simp [intOf]; omega)
  ·obtain rfl : k = xs.length := by omega
   have e : (xs.length : Int) - 1 - (xs.length : Nat) = -1 := by omega
   rw [e] at hp
   subst hp
   gi_wp2
   go_end0
   exact ⟨⟨_, rfl⟩, σ', hj⟩
end Go.Proofs.YtefkifdhjabdiaaDoor
namespace Go.Proofs.YtefkifdhjabdiaaDoor
set_option maxHeartbeats 4000000
set_option linter.unusedVariables false
set_option linter.unusedSimpArgs false
set_option maxRecDepth 100000
def markL : List Int → List Bool → List Bool
 | [], a => a
 | v :: r, a => markL r (a.set (0 + v.toNat) true)
theorem markL_len : ∀ (l : List Int) (a : List Bool), (markL l a).length = a.length
 | [], a => rfl
 | v :: r, a => by unfold markL; rw [markL_len r, List.length_set]
noncomputable def oc121 : Orc where
 pure := fun f args => match f, args with
  | _, _ => none
 heap := fun _ _ _ => none
def mark_lv : LV := ⟨(false :: true :: F2 (false :: true :: true :: true :: F4 (F2 (false :: [])))), []⟩
noncomputable def mark_T (l : List Int) (n : Nat) (a : List Bool) : Tree :=
 .stop (lp (bodyOf Tryd.f51) 0) (.junk :: .c (.ptr 0 0 0 0) :: J2 (.junk :: .c (.ro tI l) :: .c (.int .i64 (l.length : Int)) :: .c (.int .i64 0) :: J4 (J2 (.junk :: [])))) [.cells 108 [.sl 1 1 0 n], .vec 4 .bool a]
theorem mark_T_ok (l : List Int) (n : Nat) (a : List Bool) : aRun Tryd.prog oc121 Tryd.f51 mark_lv 3000 [.code (bodyOf Tryd.f51)] ([.c (.ro tI l), .c (.ptr 0 0 0 0)] ++ List.replicate (Func.ntmps Tryd.f51 - 2) .junk) [.cells 108 [.sl 1 1 0 n], .vec 4 .bool a] = mark_T l n a := by kernel_rfl
noncomputable def mark_l0_R (l : List Int) (n : Nat) (a : List Bool) (i : Nat) (b : List Bool) : Tree :=
 .ite (decide (((i : Nat) : Int) < (l.length : Int)))
 (.need ((0 : Int) ≤ ((i : Nat) : Int) ∧ (((i : Nat) : Int) : Int) < (l.length : Int)) <|
  .need (i < l.length) <|
  .need ((0 : Int) ≤ (l.getD i tI.dflt) ∧ ((l.getD i tI.dflt) : Int) < ((n : Nat) : Int)) <|
  .need ((0 + (Int.toNat (l.getD i tI.dflt))) < b.length) <|
  .need (inR .i64 (((i : Nat) : Int) + 1)) <|
  .stop (lp (bodyOf Tryd.f51) 0) (.junk :: .c (.ptr 0 0 0 0) :: J2 (.junk :: .c (.ro tI l) :: .c (.int .i64 (l.length : Int)) :: .c (.int .i64 (((i : Nat) : Int) + 1)) :: J4 (J2 (.junk :: [])))) [.cells 108 [.sl 1 1 0 n], .vec 4 .bool (b.set (0 + (Int.toNat (l.getD i tI.dflt))) true)])
 (.ret (.tup []) [.cells 108 [.sl 1 1 0 n], .vec 4 .bool b])
theorem mark_l0_R_ok (l : List Int) (n : Nat) (a : List Bool) (i : Nat) (b : List Bool) : aRound Tryd.prog oc121 Tryd.f51 mark_lv 3000 (lp (bodyOf Tryd.f51) 0) (.junk :: .c (.ptr 0 0 0 0) :: J2 (.junk :: .c (.ro tI l) :: .c (.int .i64 (l.length : Int)) :: .c (.int .i64 ((i : Nat) : Int)) :: J4 (J2 (.junk :: [])))) [.cells 108 [.sl 1 1 0 n], .vec 4 .bool b] = mark_l0_R l n a i b := by kernel_rfl
theorem mark_l0 (l : List Int) (n : Nat) (a : List Bool) (i : Nat) (b : List Bool) (hv : ∀ v ∈ l, 0 ≤ v ∧ v < (n : Int)) (hl : Ty.ok (.slice tI) l) (hb : b.length = n) : RunN 2 Tryd.prog 51 (finQ Tryd.prog 2 (.tup []) [.cells 108 [.sl 1 1 0 n], .vec 4 .bool (markL (l.drop i) b)]) (lp (bodyOf Tryd.f51) 0) (.junk :: .c (.ptr 0 0 0 0) :: J2 (.junk :: .c (.ro tI l) :: .c (.int .i64 (l.length : Int)) :: .c (.int .i64 ((i : Nat) : Int)) :: J4 (J2 (.junk :: [])))) [.cells 108 [.sl 1 1 0 n], .vec 4 .bool b] :=
 Run.roundA oc121 mark_lv 3000 Tryd.func51 mixed (mark_l0_R l n a i b) (mark_l0_R_ok l n a i b) (by
  unfold mark_l0_R
  refine g_iteD (fun h0 => ?_) (fun h0 => ?_)
  ·refine g_need (by first | omega | (have q := hv _ (getD_mem (α := Int) (Ty.dflt tI) (by omega : i < l.length)); first | omega | (rw [i64_iff]; omega)) | (have := hl.1; rw [i64_iff]; omega) | rfl | (simp; done)) ?_
   refine g_need (by first | omega | (have q := hv _ (getD_mem (α := Int) (Ty.dflt tI) (by omega : i < l.length)); first | omega | (rw [i64_iff]; omega)) | (have := hl.1; rw [i64_iff]; omega) | rfl | (simp; done)) ?_
   refine g_need (by first | omega | (have q := hv _ (getD_mem (α := Int) (Ty.dflt tI) (by omega : i < l.length)); first | omega | (rw [i64_iff]; omega)) | (have := hl.1; rw [i64_iff]; omega) | rfl | (simp; done)) ?_
   refine g_need (by first | omega | (have q := hv _ (getD_mem (α := Int) (Ty.dflt tI) (by omega : i < l.length)); first | omega | (rw [i64_iff]; omega)) | (have := hl.1; rw [i64_iff]; omega) | rfl | (simp; done)) ?_
   refine g_need (by first | omega | (have q := hv _ (getD_mem (α := Int) (Ty.dflt tI) (by omega : i < l.length)); first | omega | (rw [i64_iff]; omega)) | (have := hl.1; rw [i64_iff]; omega) | rfl | (simp; done)) ?_
   refine g_stop (RunN.keep [0, 1] (false :: true :: F2 (false :: true :: true :: true :: F4 (F2 (false :: [])))) (show ∀ k, k < 2 → ([0, 1] : List Nat)[k]? = some k by decide) (by decide) rfl rfl ?_)
   have ht := mark_l0 l n a (i + 1) (b.set (0 + (Int.toNat (l.getD i tI.dflt))) true) hv hl (by rw [List.length_set]; exact hb); rw [dropCons (α := Int) (Ty.dflt tI) (by omega : i < l.length), markL]; exact ht
  ·rw [List.drop_eq_nil_of_le (by omega)]; unfold markL
   refine g_fin ?_
   exact g_end [0, 1] (show ∀ k, k < 2 → ([0, 1] : List Nat)[k]? = some k by decide) (by decide) (leAV.refl _) ⟨leB.refl _, ⟨rfl, ⟨rfl, rfl⟩⟩, trivial⟩
  )
 termination_by l.length - i
 decreasing_by all_goals omega
theorem mark_fun (l : List Int) (n : Nat) (a : List Bool) (hv : ∀ v ∈ l, 0 ≤ v ∧ v < (n : Int)) (hb : a.length = n) : AFunH Tryd.prog 51 [.c (.ro tI l), .c (.ptr 0 0 0 0)] [.cells 108 [.sl 1 1 0 n], .vec 4 .bool a] (.tup []) [.cells 108 [.sl 1 1 0 n], .vec 4 .bool (markL l a)] (List.range 2) :=
 AFunH.ofL oc121 mark_lv 3000 Tryd.func51 mixed rfl (by decide) (Nat.le_of_ble_eq_true rfl) rfl rfl (Nat.le_of_ble_eq_true rfl) _ (mark_T_ok l n a) fun hF => by
  have hl := hF.ro (i := 0) rfl
  unfold mark_T
  refine g_stop (RunN.keep [0, 1] (false :: true :: F2 (false :: true :: true :: true :: F4 (F2 (false :: [])))) (show ∀ k, k < 2 → ([0, 1] : List Nat)[k]? = some k by decide) (by decide) rfl rfl ?_)
  exact mark_l0 l n a 0 a hv hl hb

def dvals (x : EExit) : List Int := x.2.2.1.map (fun s => s.2) ++ x.2.2.2.flatMap fun m => m.1 :: m.2.2.2
noncomputable def oc122 : Orc where
 pure := fun f args => match f, args with
  | _, _ => none
 heap := fun _ _ _ => none
def dval_lv : LV := ⟨(false :: true :: false :: true :: F4 (false :: true :: true :: true :: F8 (F2 (true :: true :: true :: F8 (F4 (false :: [])))))), []⟩
noncomputable def dval_T (x : EExit) : Tree :=
 .stop (lp (bodyOf Tryd.f53) 0) (.junk :: .c (.ptr 0 0 0 0) :: .junk :: .c (.nilsl) :: J4 (.junk :: .c (.ro tVal x.2.2.1) :: .c (.int .i64 (x.2.2.1.length : Int)) :: .c (.int .i64 0) :: J16 (J8 (J2 ([]))))) [.cells 27 (Ty.enc tExit x)]
theorem dval_T_ok (x : EExit) : aRun Tryd.prog oc122 Tryd.f53 dval_lv 3000 [.code (bodyOf Tryd.f53)] ([.agg (tExit.enc x)] ++ List.replicate (Func.ntmps Tryd.f53 - 1) .junk) [] = dval_T x := by kernel_rfl
noncomputable def dval_l1_R (x : EExit) (j : Nat) (out : List Int) : Tree :=
 .ite (decide (((j : Nat) : Int) < (x.2.2.2.length : Int)))
 (.need ((0 : Int) ≤ ((j : Nat) : Int) ∧ (((j : Nat) : Int) : Int) < (x.2.2.2.length : Int)) <|
  .need (j < x.2.2.2.length) <|
  .need (out.length = out.length) <|
  .need (0 = 0 ∧ 1 = ([(x.2.2.2.getD j tMake.dflt).1]).length) <|
  .need ((out.length + ([(x.2.2.2.getD j tMake.dflt).1]).length) * 8 ≤ 140737488355328) <|
  .need ((out ++ [(x.2.2.2.getD j tMake.dflt).1]).length = (out ++ [(x.2.2.2.getD j tMake.dflt).1]).length) <|
  .need (((out ++ [(x.2.2.2.getD j tMake.dflt).1]).length + (x.2.2.2.getD j tMake.dflt).2.2.2.length) * 8 ≤ 140737488355328) <|
  .need (inR .i64 (((j : Nat) : Int) + 1)) <|
  .stop (lp (bodyOf Tryd.f53) 1) (J2 (.junk :: .c (.osl 4 1 ((out ++ [(x.2.2.2.getD j tMake.dflt).1]) ++ (x.2.2.2.getD j tMake.dflt).2.2.2).length) :: J16 (J2 (.c (.ro tMake x.2.2.2) :: .c (.int .i64 (x.2.2.2.length : Int)) :: .c (.int .i64 (((j : Nat) : Int) + 1)) :: J8 (J4 (.junk :: [])))))) [.dead, .cells 118 [.int .i64 (x.2.2.2.getD j tMake.dflt).1, .int .i64 (x.2.2.2.getD j tMake.dflt).2.1, .int .i64 (x.2.2.2.getD j tMake.dflt).2.2.1, .ro tI (x.2.2.2.getD j tMake.dflt).2.2.2], .vec 3 tI ([(x.2.2.2.getD j tMake.dflt).1]), .dead, .ovec 3 tI ((out ++ [(x.2.2.2.getD j tMake.dflt).1]) ++ (x.2.2.2.getD j tMake.dflt).2.2.2)])
 (.ret (.c (.osl 0 1 out.length)) [.ovec 3 tI out])
theorem dval_l1_R_ok (x : EExit) (j : Nat) (out : List Int) : aRound Tryd.prog oc122 Tryd.f53 dval_lv 3000 (lp (bodyOf Tryd.f53) 1) (J2 (.junk :: .c (.osl 0 1 out.length) :: J16 (J2 (.c (.ro tMake x.2.2.2) :: .c (.int .i64 (x.2.2.2.length : Int)) :: .c (.int .i64 ((j : Nat) : Int)) :: J8 (J4 (.junk :: [])))))) [.ovec 3 tI out] = dval_l1_R x j out := by kernel_rfl
noncomputable def dval_l0_R (x : EExit) (i : Nat) (out : List Int) : Tree :=
 .ite (decide (((i : Nat) : Int) < (x.2.2.1.length : Int)))
 (.need ((0 : Int) ≤ ((i : Nat) : Int) ∧ (((i : Nat) : Int) : Int) < (x.2.2.1.length : Int)) <|
  .need (i < x.2.2.1.length) <|
  .need (out.length = out.length) <|
  .need (0 = 0 ∧ 1 = ([(x.2.2.1.getD i tVal.dflt).2]).length) <|
  .need ((out.length + ([(x.2.2.1.getD i tVal.dflt).2]).length) * 8 ≤ 140737488355328) <|
  .need (inR .i64 (((i : Nat) : Int) + 1)) <|
  .stop (lp (bodyOf Tryd.f53) 0) (.junk :: .c (.ptr 0 0 0 0) :: .junk :: .c (.osl 4 1 (out ++ [(x.2.2.1.getD i tVal.dflt).2]).length) :: J4 (.junk :: .c (.ro tVal x.2.2.1) :: .c (.int .i64 (x.2.2.1.length : Int)) :: .c (.int .i64 (((i : Nat) : Int) + 1)) :: J16 (J8 (J2 ([]))))) [.cells 27 (Ty.enc tExit x), .dead, .cells 116 [.int .i64 (x.2.2.1.getD i tVal.dflt).1, .int .i64 (x.2.2.1.getD i tVal.dflt).2], .vec 3 tI ([(x.2.2.1.getD i tVal.dflt).2]), .ovec 3 tI (out ++ [(x.2.2.1.getD i tVal.dflt).2])])
 (.stop (lp (bodyOf Tryd.f53) 1) (.junk :: .c (.ptr 0 0 0 0) :: .junk :: .c (.osl 1 1 out.length) :: J4 (.junk :: .c (.ro tVal x.2.2.1) :: .c (.int .i64 (x.2.2.1.length : Int)) :: .c (.int .i64 ((i : Nat) : Int)) :: J8 (J2 (.c (.ro tMake x.2.2.2) :: .c (.int .i64 (x.2.2.2.length : Int)) :: .c (.int .i64 0) :: J8 (J4 (.junk :: [])))))) [.cells 27 (Ty.enc tExit x), .ovec 3 tI out])
theorem dval_l0_R_ok (x : EExit) (i : Nat) (out : List Int) : aRound Tryd.prog oc122 Tryd.f53 dval_lv 3000 (lp (bodyOf Tryd.f53) 0) (.junk :: .c (.ptr 0 0 0 0) :: .junk :: .c (.osl 1 1 out.length) :: J4 (.junk :: .c (.ro tVal x.2.2.1) :: .c (.int .i64 (x.2.2.1.length : Int)) :: .c (.int .i64 ((i : Nat) : Int)) :: J16 (J8 (J2 ([]))))) [.cells 27 (Ty.enc tExit x), .ovec 3 tI out] = dval_l0_R x i out := by kernel_rfl
theorem dval_l1 (x : EExit) (j : Nat) (out : List Int) (hs : x.2.2.1.length ≤ 1000000 ∧ x.2.2.2.length ≤ 1000000 ∧ ∀ m ∈ x.2.2.2, m.2.2.2.length ≤ 1000000) (hb : out.length ≤ 1000000 + j * 1000001) : Run Tryd.prog 53 (retQ Tryd.prog (.c (.ro tI (out ++ (x.2.2.2.drop j).flatMap fun m => m.1 :: m.2.2.2)))) (lp (bodyOf Tryd.f53) 1) (J2 (.junk :: .c (.osl 0 1 out.length) :: J16 (J2 (.c (.ro tMake x.2.2.2) :: .c (.int .i64 (x.2.2.2.length : Int)) :: .c (.int .i64 ((j : Nat) : Int)) :: J8 (J4 (.junk :: [])))))) [.ovec 3 tI out] :=
 Run.roundA oc122 dval_lv 3000 Tryd.func53 mixed (dval_l1_R x j out) (dval_l1_R_ok x j out) (by
  unfold dval_l1_R
  refine g_iteD (fun h0 => ?_) (fun h0 => ?_)
  ·refine g_need (by omega) ?_
   refine g_need (by omega) ?_
   refine g_need (rfl) ?_
   refine g_need (⟨rfl, rfl⟩) ?_
   refine g_need (by first | omega | rfl | (constructor <;> omega) | (have q := hs.2.2 _ (getD_mem (α := EMake) (Ty.dflt tMake) (by omega : j < x.2.2.2.length)); have q1 := hs.1; have q2 := hs.2.1; (try simp only [List.length_cons, List.length_nil, List.length_append]); first | omega | (rw [i64_iff]; omega)) | (simp; done) | (simp; omega)) ?_
   refine g_need (rfl) ?_
   refine g_need (by first | omega | rfl | (constructor <;> omega) | (have q := hs.2.2 _ (getD_mem (α := EMake) (Ty.dflt tMake) (by omega : j < x.2.2.2.length)); have q1 := hs.1; have q2 := hs.2.1; (try simp only [List.length_cons, List.length_nil, List.length_append]); first | omega | (rw [i64_iff]; omega)) | (simp; done) | (simp; omega)) ?_
   refine g_need (by first | omega | rfl | (constructor <;> omega) | (have q := hs.2.2 _ (getD_mem (α := EMake) (Ty.dflt tMake) (by omega : j < x.2.2.2.length)); have q1 := hs.1; have q2 := hs.2.1; (try simp only [List.length_cons, List.length_nil, List.length_append]); first | omega | (rw [i64_iff]; omega)) | (simp; done) | (simp; omega)) ?_
   refine g_stop (RunN.keep [4] (F2 (false :: true :: F16 (F2 (true :: true :: true :: F8 (F4 (false :: [])))))) n0 (by decide) rfl rfl ?_)
   have q := hs.2.2 _ (getD_mem (α := EMake) (Ty.dflt tMake) (by omega : j < x.2.2.2.length)); have ht := dval_l1 x (j + 1) ((out ++ [(x.2.2.2.getD j tMake.dflt).1]) ++ (x.2.2.2.getD j tMake.dflt).2.2.2) hs (by simp only [List.length_append, List.length_cons, List.length_nil]; omega); have e : out ++ (x.2.2.2.drop j).flatMap (fun m => m.1 :: m.2.2.2) = ((out ++ [(x.2.2.2.getD j tMake.dflt).1]) ++ (x.2.2.2.getD j tMake.dflt).2.2.2) ++ (x.2.2.2.drop (j + 1)).flatMap (fun m => m.1 :: m.2.2.2) := (by rw [dropCons (α := EMake) (Ty.dflt tMake) (by omega : j < x.2.2.2.length)]; simp); rw [e]; exact ht
  ·rw [List.drop_eq_nil_of_le (by omega), List.flatMap_nil, List.append_nil]
   refine g_rq ?_
   refine g_need (rfl) ?_
   exact g_rl (⟨rfl, rfl⟩) rfl
  )
 termination_by x.2.2.2.length - j
 decreasing_by all_goals omega
theorem dval_l0 (x : EExit) (i : Nat) (out : List Int) (hs : x.2.2.1.length ≤ 1000000 ∧ x.2.2.2.length ≤ 1000000 ∧ ∀ m ∈ x.2.2.2, m.2.2.2.length ≤ 1000000) (hb : out.length ≤ i) (hi : i ≤ x.2.2.1.length) : Run Tryd.prog 53 (retQ Tryd.prog (.c (.ro tI (out ++ ((x.2.2.1.drop i).map (fun s => s.2) ++ x.2.2.2.flatMap fun m => m.1 :: m.2.2.2))))) (lp (bodyOf Tryd.f53) 0) (.junk :: .c (.ptr 0 0 0 0) :: .junk :: .c (.osl 1 1 out.length) :: J4 (.junk :: .c (.ro tVal x.2.2.1) :: .c (.int .i64 (x.2.2.1.length : Int)) :: .c (.int .i64 ((i : Nat) : Int)) :: J16 (J8 (J2 ([]))))) [.cells 27 (Ty.enc tExit x), .ovec 3 tI out] :=
 Run.roundA oc122 dval_lv 3000 Tryd.func53 mixed (dval_l0_R x i out) (dval_l0_R_ok x i out) (by
  unfold dval_l0_R
  refine g_iteD (fun h0 => ?_) (fun h0 => ?_)
  ·refine g_need (by omega) ?_
   refine g_need (by omega) ?_
   refine g_need (rfl) ?_
   refine g_need (⟨rfl, rfl⟩) ?_
   refine g_need (by first | omega | rfl | (constructor <;> omega) | (have q := hs.1; have q1 := hs.1; have q2 := hs.2.1; (try simp only [List.length_cons, List.length_nil, List.length_append]); first | omega | (rw [i64_iff]; omega)) | (simp; done) | (simp; omega)) ?_
   refine g_need (by first | omega | rfl | (constructor <;> omega) | (have q := hs.1; have q1 := hs.1; have q2 := hs.2.1; (try simp only [List.length_cons, List.length_nil, List.length_append]); first | omega | (rw [i64_iff]; omega)) | (simp; done) | (simp; omega)) ?_
   refine g_stop (RunN.keep [0, 4] (false :: true :: false :: true :: F4 (false :: true :: true :: true :: F16 (F8 (F2 ([]))))) n0 (by decide) rfl rfl ?_)
   have ht := dval_l0 x (i + 1) (out ++ [(x.2.2.1.getD i tVal.dflt).2]) hs (by simp; omega) (by omega); have e : out ++ ((x.2.2.1.drop i).map (fun s => s.2) ++ x.2.2.2.flatMap fun m => m.1 :: m.2.2.2) = (out ++ [(x.2.2.1.getD i tVal.dflt).2]) ++ ((x.2.2.1.drop (i + 1)).map (fun s => s.2) ++ x.2.2.2.flatMap fun m => m.1 :: m.2.2.2) := (by rw [dropCons (α := EVal) (Ty.dflt tVal) (by omega : i < x.2.2.1.length)]; simp); rw [e]; exact ht
  ·refine g_stop (RunN.keep [1] (F2 (false :: true :: F16 (F2 (true :: true :: true :: F8 (F4 (false :: [])))))) n0 (by decide) rfl rfl ?_)
   have q1 := hs.1; have ht := dval_l1 x 0 out hs (by omega); rw [List.drop_eq_nil_of_le (show x.2.2.1.length ≤ i by omega), List.map_nil, List.nil_append]; exact ht
  )
 termination_by x.2.2.1.length - i
 decreasing_by all_goals omega
theorem dval_fun (x : EExit) (hs : x.2.2.1.length ≤ 1000000 ∧ x.2.2.2.length ≤ 1000000 ∧ ∀ m ∈ x.2.2.2, m.2.2.2.length ≤ 1000000) : AFun Tryd.prog 53 [.agg (tExit.enc x)] (.c (.ro tI (dvals x))) :=
 AFun.of oc122 dval_lv 3000 Tryd.func53 mixed rfl (by decide) (Nat.le_of_ble_eq_true rfl) _ (dval_T_ok x) fun hF => by
  unfold dval_T
  refine g_stop (RunN.keep [0, 1001] (false :: true :: false :: true :: F4 (false :: true :: true :: true :: F16 (F8 (F2 ([]))))) n0 (by decide) rfl rfl ?_)
  refine RunN.less (env' := (.junk :: .c (.ptr 0 0 0 0) :: .junk :: .c (.osl 1 1 0) :: J4 (.junk :: .c (.ro tVal x.2.2.1) :: .c (.int .i64 (x.2.2.1.length : Int)) :: .c (.int .i64 ((0 : Nat) : Int)) :: J16 (J8 (J2 ([])))))) (H' := [.cells 27 (Ty.enc tExit x), .ovec 3 tI ([])]) (leAVs.skip 3 rfl ⟨rfl, leAVs.same rfl⟩) (⟨leB.refl _, rfl, trivial⟩) ?_
  exact dval_l0 x 0 ([]) hs (by simp) (Nat.zero_le _)

noncomputable def oc123 : Orc where
 pure := fun f args => match f, args with
  | _, _ => none
 heap := fun _ _ _ => none
def backw_lv : LV := ⟨([]), []⟩
noncomputable def backw_T (xs : List EIns) : Tree :=
 .ret (.c (.fnc (.fn0 89) (.ptr 0 0 0 0))) [.cells 22 [.ro tIns xs]]
theorem backw_T_ok (xs : List EIns) : aRun Tryd.prog oc123 Tryd.f54 backw_lv 3000 [.code (bodyOf Tryd.f54)] ([.c (.ro tIns xs)] ++ List.replicate (Func.ntmps Tryd.f54 - 1) .junk) [] = backw_T xs := by kernel_rfl
theorem backw_fun (xs : List EIns) : AFunH Tryd.prog 54 [.c (.ro tIns xs)] [] (.c (.fnc (.fn0 89) (.ptr 0 0 0 0))) [.cells 22 [.ro tIns xs]] (List.range 1) :=
 AFunH.ofL oc123 backw_lv 3000 Tryd.func54 mixed rfl (by decide) (Nat.le_of_ble_eq_true rfl) rfl rfl (Nat.le_of_ble_eq_true rfl) _ (backw_T_ok xs) fun hF => by
  unfold backw_T
  refine g_fin ?_
  exact g_end [0] (fun k hk => absurd hk (Nat.not_lt_zero _)) (by decide) (leAV.refl _) ⟨leB.refl _, trivial⟩
end Go.Proofs.YtefkifdhjabdiaaDoor
namespace Go.Proofs.YtefkifdhjabdiaaDoor
set_option linter.unusedVariables false
set_option linter.unusedSimpArgs false
set_option maxRecDepth 100000
def cutOne (at_ : List Int) (v : Int) : Int × Bool := if v < 0 then (-1, false) else if (at_.length : Int) ≤ v then (-1, false) else if at_.getD v.toNat tI.dflt < 0 then (-1, false) else (at_.getD v.toNat tI.dflt, true)
noncomputable def oc20 : Orc where
 pure := fun f args => match f, args with
  | _, _ => none
 heap := fun _ _ _ => none
def one_lv : LV := ⟨([]), []⟩
noncomputable def one_T (at_ : List Int) (fine : Bool) (v : Int) : Tree :=
 .ite (decide (v < 0))
 (.ret (.c (.int .i64 (-1))) [.cells 97 [.osl 1 1 at_.length, .lit false], .ovec 3 tI at_])
 (.ite (decide (((at_.length : Nat) : Int) ≤ v))
  (.ret (.c (.int .i64 (-1))) [.cells 97 [.osl 1 1 at_.length, .lit false], .ovec 3 tI at_])
  (.need ((0 : Int) ≤ v ∧ (v : Int) < ((at_.length : Nat) : Int)) <|
  .need ((Int.toNat v) < at_.length) <|
  .ite (decide ((at_.getD (Int.toNat v) tI.dflt) < 0))
  (.ret (.c (.int .i64 (-1))) [.cells 97 [.osl 1 1 at_.length, .lit false], .ovec 3 tI at_])
  (.need ((0 : Int) ≤ v ∧ (v : Int) < ((at_.length : Nat) : Int)) <|
   .need ((Int.toNat v) < at_.length) <|
   .ret (.c (.int .i64 (at_.getD (Int.toNat v) tI.dflt))) [.cells 97 [.osl 1 1 at_.length, .bool fine], .ovec 3 tI at_])))
theorem one_T_ok (at_ : List Int) (fine : Bool) (v : Int) : aRun Tryd.prog oc20 Tryd.f88 one_lv 3000 [.code (bodyOf Tryd.f88)] ([.c (.ptr 0 0 0 0), .c (.int .i64 v)] ++ List.replicate (Func.ntmps Tryd.f88 - 2) .junk) [.cells 97 [.osl 1 1 at_.length, .bool fine], .ovec 3 tI at_] = one_T at_ fine v := by kernel_rfl
theorem one_fun (at_ : List Int) (fine : Bool) (v : Int) : AFunH Tryd.prog 88 [.c (.ptr 0 0 0 0), .c (.int .i64 v)] [.cells 97 [.osl 1 1 at_.length, .bool fine], .ovec 3 tI at_] (.c (.int .i64 ((cutOne at_ v).1))) [.cells 97 [.osl 1 1 at_.length, .bool (fine && (cutOne at_ v).2)], .ovec 3 tI at_] (List.range 2) :=
 AFunH.ofL oc20 one_lv 3000 Tryd.func88 mixed rfl (by decide) (Nat.le_of_ble_eq_true rfl) rfl rfl (Nat.le_of_ble_eq_true rfl) _ (one_T_ok at_ fine v) fun hF => by
  unfold one_T
  refine g_iteD (fun h0 => ?_) (fun h0 => ?_)
  ·refine g_fin ?_
   exact g_end [0, 1] (show ∀ k, k < 2 → ([0, 1] : List Nat)[k]? = some k by decide) (by decide) (⟨rfl, (show ((-1) : Int) = (cutOne at_ v).1 from by simp only [cutOne, h0, if_true, if_false, Bool.and_false, Bool.and_true])⟩) ⟨⟨rfl, leC.refl _, (show (false : Bool) = (fine && (cutOne at_ v).2) from by simp only [cutOne, h0, if_true, if_false, Bool.and_false, Bool.and_true]), trivial⟩, leB.refl _, trivial⟩
  ·refine g_iteD (fun h1 => ?_) (fun h1 => ?_)
   ·refine g_fin ?_
    exact g_end [0, 1] (show ∀ k, k < 2 → ([0, 1] : List Nat)[k]? = some k by decide) (by decide) (⟨rfl, (show ((-1) : Int) = (cutOne at_ v).1 from by simp only [cutOne, h0, h1, if_true, if_false, Bool.and_false, Bool.and_true])⟩) ⟨⟨rfl, leC.refl _, (show (false : Bool) = (fine && (cutOne at_ v).2) from by simp only [cutOne, h0, h1, if_true, if_false, Bool.and_false, Bool.and_true]), trivial⟩, leB.refl _, trivial⟩
   ·refine g_need (by omega) ?_
    refine g_need (by omega) ?_
    refine g_iteD (fun h2 => ?_) (fun h2 => ?_)
    ·refine g_fin ?_
     exact g_end [0, 1] (show ∀ k, k < 2 → ([0, 1] : List Nat)[k]? = some k by decide) (by decide) (⟨rfl, (show ((-1) : Int) = (cutOne at_ v).1 from by simp only [cutOne, h0, h1, h2, if_true, if_false, Bool.and_false, Bool.and_true])⟩) ⟨⟨rfl, leC.refl _, (show (false : Bool) = (fine && (cutOne at_ v).2) from by simp only [cutOne, h0, h1, h2, if_true, if_false, Bool.and_false, Bool.and_true]), trivial⟩, leB.refl _, trivial⟩
    ·refine g_need (by omega) ?_
     refine g_need (by omega) ?_
     refine g_fin ?_
     exact g_end [0, 1] (show ∀ k, k < 2 → ([0, 1] : List Nat)[k]? = some k by decide) (by decide) (⟨rfl, (show ((at_.getD (Int.toNat v) tI.dflt) : Int) = (cutOne at_ v).1 from by simp only [cutOne, h0, h1, h2, if_true, if_false, Bool.and_false, Bool.and_true])⟩) ⟨⟨rfl, leC.refl _, (show (fine : Bool) = (fine && (cutOne at_ v).2) from by simp only [cutOne, h0, h1, h2, if_true, if_false, Bool.and_false, Bool.and_true]), trivial⟩, leB.refl _, trivial⟩

def cutSet (at_ : List Int) (s : EVal) : EVal := (s.1, (cutOne at_ s.2).1)
def cutSetOk (at_ : List Int) (s : EVal) : Bool := (cutOne at_ s.2).2
def cutMake (at_ : List Int) (m : EMake) : EMake := ((cutOne at_ m.1).1, m.2.1, m.2.2.1, m.2.2.2.map fun v => (cutOne at_ v).1)
def cutMakeOk (at_ : List Int) (m : EMake) : Bool := (cutOne at_ m.1).2 && m.2.2.2.all fun v => (cutOne at_ v).2
def cutExit (at_ : List Int) (x : EExit) : EExit := (x.1, x.2.1, x.2.2.1.map (cutSet at_), x.2.2.2.map (cutMake at_))
def cutExitOk (at_ : List Int) (x : EExit) : Bool := x.2.2.1.all (cutSetOk at_) && x.2.2.2.all (cutMakeOk at_)
/-- An exit of a size that can be. -/
def exitSm (x : EExit) : Prop := x.2.2.1.length ≤ 1000000 ∧ x.2.2.2.length ≤ 1000000 ∧ ∀ m ∈ x.2.2.2, m.2.2.2.length ≤ 1000000
noncomputable def oc21 : Orc where
 pure := fun f args => match f, args with
  | _, _ => none
 heap := fun f args H => match f, args with
  | 88, [.one (.c (.ptr b0 0 0 0)), a1] => match cellsAs 97 H[b0]? with
   | some [.osl b1 1 _, c0_1] => (match dA tI a1, dC .bool c0_1, ovecAs 3 tI H[b1]? with
    | some x1, some y0_1, some y1 => hres [b0, b1] H (.c (.int .i64 ((cutOne y1 x1).1))) [.cells 97 [.osl 1 1 y1.length, .bool (y0_1 && (cutOne y1 x1).2)], .ovec 3 tI y1]
    | _, _, _ => none)
   | _ => none
  | _, _ => none
def cexit_lv : LV := ⟨(true :: F2 (true :: true :: true :: F4 (true :: F8 (true :: true :: true :: F16 (false :: true :: true :: true :: F8 (F4 (false :: true :: true :: true :: F16 (F4 ([]))))))))), []⟩
noncomputable def cexit_T (at_ : List Int) (fine : Bool) (x : EExit) : Tree :=
 .stop (lp (bodyOf Tryd.f49) 0) (.c (.ptr 0 0 0 0) :: J2 (.c (.ptr 2 0 0 0) :: .c (.ptr 3 0 0 0) :: .c (.ptr 4 0 0 0) :: J8 (J4 (.junk :: .c (.ro tVal x.2.2.1) :: .c (.int .i64 (x.2.2.1.length : Int)) :: .c (.int .i64 0) :: J32 (J16 (J8 ([]))))))) [.cells 97 [.osl 1 1 at_.length, .bool fine], .ovec 3 tI at_, .cells 27 (Ty.enc tExit x), .cells 27 [.int .i64 0, .int .i64 0, .nilsl, .nilsl], .cells 27 [.int .i64 x.1, .int .i64 x.2.1, .nilsl, .nilsl]]
theorem cexit_T_ok (at_ : List Int) (fine : Bool) (x : EExit) : aRun Tryd.prog oc21 Tryd.f49 cexit_lv 3000 [.code (bodyOf Tryd.f49)] ([.c (.ptr 0 0 0 0), .agg (tExit.enc x)] ++ List.replicate (Func.ntmps Tryd.f49 - 2) .junk) [.cells 97 [.osl 1 1 at_.length, .bool fine], .ovec 3 tI at_] = cexit_T at_ fine x := by kernel_rfl
noncomputable def cexit_l0_R (at_ : List Int) (fine : Bool) (x : EExit) (i : Nat) (f : Bool) (ss : List EVal) : Tree :=
 .ite (decide (((i : Nat) : Int) < (x.2.2.1.length : Int)))
 (.need ((0 : Int) ≤ ((i : Nat) : Int) ∧ (((i : Nat) : Int) : Int) < (x.2.2.1.length : Int)) <|
  .need (i < x.2.2.1.length) <|
  .callH 88 [.c (.ptr 0 0 0 0), .c (.int .i64 (x.2.2.1.getD i tVal.dflt).2)] [.cells 97 [.osl 1 1 at_.length, .bool f], .ovec 3 tI at_, .cells 27 (Ty.enc tExit x), .cells 27 [.int .i64 0, .int .i64 0, .nilsl, .nilsl], .cells 27 [.int .i64 x.1, .int .i64 x.2.1, .osl 5 2 ss.length, .nilsl], .ovec 116 tVal ss, .cells 116 [.int .i64 (x.2.2.1.getD i tVal.dflt).1, .int .i64 (x.2.2.1.getD i tVal.dflt).2]] (.c (.int .i64 (cutOne at_ (x.2.2.1.getD i tVal.dflt).2).1)) [.cells 97 [.osl 1 1 at_.length, .bool (f && (cutOne at_ (x.2.2.1.getD i tVal.dflt).2).2)], .ovec 3 tI at_, .cells 27 (Ty.enc tExit x), .cells 27 [.int .i64 0, .int .i64 0, .nilsl, .nilsl], .cells 27 [.int .i64 x.1, .int .i64 x.2.1, .osl 5 2 ss.length, .nilsl], .ovec 116 tVal ss, .cells 116 [.int .i64 (x.2.2.1.getD i tVal.dflt).1, .int .i64 (x.2.2.1.getD i tVal.dflt).2]] [0, 1] <|
  .need (ss.length = ss.length) <|
  .need (0 = 0 ∧ 1 = ([((x.2.2.1.getD i tVal.dflt).1, (cutOne at_ (x.2.2.1.getD i tVal.dflt).2).1)]).length) <|
  .need ((ss.length + ([((x.2.2.1.getD i tVal.dflt).1, (cutOne at_ (x.2.2.1.getD i tVal.dflt).2).1)]).length) * 16 ≤ 140737488355328) <|
  .need (inR .i64 (((i : Nat) : Int) + 1)) <|
  .stop (lp (bodyOf Tryd.f49) 0) (.c (.ptr 0 0 0 0) :: J2 (.c (.ptr 2 0 0 0) :: .c (.ptr 3 0 0 0) :: .c (.ptr 4 0 0 0) :: J8 (J4 (.junk :: .c (.ro tVal x.2.2.1) :: .c (.int .i64 (x.2.2.1.length : Int)) :: .c (.int .i64 (((i : Nat) : Int) + 1)) :: J32 (J16 (J8 ([]))))))) [.cells 97 [.osl 1 1 at_.length, .bool (f && (cutOne at_ (x.2.2.1.getD i tVal.dflt).2).2)], .ovec 3 tI at_, .cells 27 (Ty.enc tExit x), .cells 27 [.int .i64 0, .int .i64 0, .nilsl, .nilsl], .cells 27 [.int .i64 x.1, .int .i64 x.2.1, .osl 8 2 (ss ++ [((x.2.2.1.getD i tVal.dflt).1, (cutOne at_ (x.2.2.1.getD i tVal.dflt).2).1)]).length, .nilsl], .dead, .cells 116 [.int .i64 (x.2.2.1.getD i tVal.dflt).1, .int .i64 (x.2.2.1.getD i tVal.dflt).2], .vec 116 tVal ([((x.2.2.1.getD i tVal.dflt).1, (cutOne at_ (x.2.2.1.getD i tVal.dflt).2).1)]), .ovec 116 tVal (ss ++ [((x.2.2.1.getD i tVal.dflt).1, (cutOne at_ (x.2.2.1.getD i tVal.dflt).2).1)])])
 (.stop (lp (bodyOf Tryd.f49) 1) (.c (.ptr 0 0 0 0) :: J2 (.c (.ptr 2 0 0 0) :: .c (.ptr 3 0 0 0) :: .c (.ptr 4 0 0 0) :: J8 (J4 (.junk :: .c (.ro tVal x.2.2.1) :: .c (.int .i64 (x.2.2.1.length : Int)) :: .c (.int .i64 ((i : Nat) : Int)) :: J16 (.junk :: .c (.ro tMake x.2.2.2) :: .c (.int .i64 (x.2.2.2.length : Int)) :: .c (.int .i64 0) :: J32 (J4 ([]))))))) [.cells 97 [.osl 1 1 at_.length, .bool f], .ovec 3 tI at_, .cells 27 (Ty.enc tExit x), .cells 27 [.int .i64 0, .int .i64 0, .nilsl, .nilsl], .cells 27 [.int .i64 x.1, .int .i64 x.2.1, .osl 5 2 ss.length, .nilsl], .ovec 116 tVal ss])
theorem cexit_l0_R_ok (at_ : List Int) (fine : Bool) (x : EExit) (i : Nat) (f : Bool) (ss : List EVal) : aRound Tryd.prog oc21 Tryd.f49 cexit_lv 3000 (lp (bodyOf Tryd.f49) 0) (.c (.ptr 0 0 0 0) :: J2 (.c (.ptr 2 0 0 0) :: .c (.ptr 3 0 0 0) :: .c (.ptr 4 0 0 0) :: J8 (J4 (.junk :: .c (.ro tVal x.2.2.1) :: .c (.int .i64 (x.2.2.1.length : Int)) :: .c (.int .i64 ((i : Nat) : Int)) :: J32 (J16 (J8 ([]))))))) [.cells 97 [.osl 1 1 at_.length, .bool f], .ovec 3 tI at_, .cells 27 (Ty.enc tExit x), .cells 27 [.int .i64 0, .int .i64 0, .nilsl, .nilsl], .cells 27 [.int .i64 x.1, .int .i64 x.2.1, .osl 5 2 ss.length, .nilsl], .ovec 116 tVal ss] = cexit_l0_R at_ fine x i f ss := by kernel_rfl
abbrev bCl0 (x : EExit) (j : Nat) : AB := .cells 118 [.int .i64 (x.2.2.2.getD j tMake.dflt).1, .int .i64 (x.2.2.2.getD j tMake.dflt).2.1, .int .i64 (x.2.2.2.getD j tMake.dflt).2.2.1, .ro tI (x.2.2.2.getD j tMake.dflt).2.2.2]
abbrev bCl6 (x : EExit) (ss : List EVal) (ms : List EMake) : AB := .cells 27 [.int .i64 x.1, .int .i64 x.2.1, .osl 4 2 ss.length, .osl 5 4 ms.length]
noncomputable def cexit_l1_R (at_ : List Int) (fine : Bool) (x : EExit) (j : Nat) (f : Bool) (ss : List EVal) (ms : List EMake) : Tree :=
 .ite (decide (((j : Nat) : Int) < (x.2.2.2.length : Int)))
 (.need ((0 : Int) ≤ ((j : Nat) : Int) ∧ (((j : Nat) : Int) : Int) < (x.2.2.2.length : Int)) <|
  .need (j < x.2.2.2.length) <|
  .callH 88 [.c (.ptr 0 0 0 0), .c (.int .i64 (x.2.2.2.getD j tMake.dflt).1)] [.cells 97 [.osl 1 1 at_.length, .bool f], .ovec 3 tI at_, .cells 27 [.int .i64 0, .int .i64 0, .nilsl, .nilsl], (bCl6 x ss ms), .ovec 116 tVal ss, .ovec 118 tMake ms, (bCl0 x j)] (.c (.int .i64 (cutOne at_ (x.2.2.2.getD j tMake.dflt).1).1)) [.cells 97 [.osl 1 1 at_.length, .bool (f && (cutOne at_ (x.2.2.2.getD j tMake.dflt).1).2)], .ovec 3 tI at_, .cells 27 [.int .i64 0, .int .i64 0, .nilsl, .nilsl], (bCl6 x ss ms), .ovec 116 tVal ss, .ovec 118 tMake ms, (bCl0 x j)] [0, 1] <|
  .stop (lp (bodyOf Tryd.f49) 2) (.c (.ptr 0 0 0 0) :: J2 (.junk :: .c (.ptr 2 0 0 0) :: .c (.ptr 3 0 0 0) :: J4 (.c (.ptr 7 0 0 0) :: J16 (J8 (J4 (.c (.ro tMake x.2.2.2) :: .c (.int .i64 (x.2.2.2.length : Int)) :: .c (.int .i64 ((j : Nat) : Int)) :: J8 (J4 (.junk :: .c (.ro tI (x.2.2.2.getD j tMake.dflt).2.2.2) :: .c (.int .i64 ((x.2.2.2.getD j tMake.dflt).2.2.2.length : Int)) :: .c (.int .i64 0) :: J16 (J4 ([])))))))))) [.cells 97 [.osl 1 1 at_.length, .bool (f && (cutOne at_ (x.2.2.2.getD j tMake.dflt).1).2)], .ovec 3 tI at_, .cells 27 [.int .i64 0, .int .i64 0, .nilsl, .nilsl], (bCl6 x ss ms), .ovec 116 tVal ss, .ovec 118 tMake ms, (bCl0 x j), .cells 118 [.int .i64 (cutOne at_ (x.2.2.2.getD j tMake.dflt).1).1, .int .i64 (x.2.2.2.getD j tMake.dflt).2.1, .int .i64 (x.2.2.2.getD j tMake.dflt).2.2.1, .nilsl]])
 (.ret (.agg [.int .i64 x.1, .int .i64 x.2.1, .osl 4 2 ss.length, .osl 5 4 ms.length]) [.cells 97 [.osl 1 1 at_.length, .bool f], .ovec 3 tI at_, (bCl6 x ss ms), (bCl6 x ss ms), .ovec 116 tVal ss, .ovec 118 tMake ms])
theorem cexit_l1_R_ok (at_ : List Int) (fine : Bool) (x : EExit) (j : Nat) (f : Bool) (ss : List EVal) (ms : List EMake) : aRound Tryd.prog oc21 Tryd.f49 cexit_lv 3000 (lp (bodyOf Tryd.f49) 1) (.c (.ptr 0 0 0 0) :: J2 (.junk :: .c (.ptr 2 0 0 0) :: .c (.ptr 3 0 0 0) :: J32 (.junk :: .c (.ro tMake x.2.2.2) :: .c (.int .i64 (x.2.2.2.length : Int)) :: .c (.int .i64 ((j : Nat) : Int)) :: J32 (J4 ([]))))) [.cells 97 [.osl 1 1 at_.length, .bool f], .ovec 3 tI at_, .cells 27 [.int .i64 0, .int .i64 0, .nilsl, .nilsl], (bCl6 x ss ms), .ovec 116 tVal ss, .ovec 118 tMake ms] = cexit_l1_R at_ fine x j f ss ms := by kernel_rfl
abbrev bCl1 (x : EExit) (j : Nat) (k : Nat) : List AV := (J4 (.junk :: .c (.ro tI (x.2.2.2.getD j tMake.dflt).2.2.2) :: .c (.int .i64 ((x.2.2.2.getD j tMake.dflt).2.2.2.length : Int)) :: .c (.int .i64 ((k : Nat) : Int)) :: J16 (J4 ([]))))
abbrev bCl2 (at_ : List Int) (x : EExit) (j : Nat) (vs : List Int) : AB := .cells 118 [.int .i64 (cutOne at_ (x.2.2.2.getD j tMake.dflt).1).1, .int .i64 (x.2.2.2.getD j tMake.dflt).2.1, .int .i64 (x.2.2.2.getD j tMake.dflt).2.2.1, .osl 7 1 vs.length]
noncomputable def cexit_l2_R (at_ : List Int) (fine : Bool) (x : EExit) (k : Nat) (j : Nat) (f : Bool) (ss : List EVal) (ms : List EMake) (vs : List Int) : Tree :=
 .ite (decide (((k : Nat) : Int) < ((x.2.2.2.getD j tMake.dflt).2.2.2.length : Int)))
 (.need ((0 : Int) ≤ ((k : Nat) : Int) ∧ (((k : Nat) : Int) : Int) < ((x.2.2.2.getD j tMake.dflt).2.2.2.length : Int)) <|
  .need (k < (x.2.2.2.getD j tMake.dflt).2.2.2.length) <|
  .callH 88 [.c (.ptr 0 0 0 0), .c (.int .i64 ((x.2.2.2.getD j tMake.dflt).2.2.2.getD k tI.dflt))] [.cells 97 [.osl 1 1 at_.length, .bool f], .ovec 3 tI at_, .cells 27 [.int .i64 0, .int .i64 0, .nilsl, .nilsl], (bCl6 x ss ms), .ovec 116 tVal ss, .ovec 118 tMake ms, (bCl2 at_ x j vs), .ovec 3 tI vs] (.c (.int .i64 (cutOne at_ ((x.2.2.2.getD j tMake.dflt).2.2.2.getD k tI.dflt)).1)) [.cells 97 [.osl 1 1 at_.length, .bool (f && (cutOne at_ ((x.2.2.2.getD j tMake.dflt).2.2.2.getD k tI.dflt)).2)], .ovec 3 tI at_, .cells 27 [.int .i64 0, .int .i64 0, .nilsl, .nilsl], (bCl6 x ss ms), .ovec 116 tVal ss, .ovec 118 tMake ms, (bCl2 at_ x j vs), .ovec 3 tI vs] [0, 1] <|
  .need (vs.length = vs.length) <|
  .need (0 = 0 ∧ 1 = ([(cutOne at_ ((x.2.2.2.getD j tMake.dflt).2.2.2.getD k tI.dflt)).1]).length) <|
  .need ((vs.length + ([(cutOne at_ ((x.2.2.2.getD j tMake.dflt).2.2.2.getD k tI.dflt)).1]).length) * 8 ≤ 140737488355328) <|
  .need (inR .i64 (((k : Nat) : Int) + 1)) <|
  .stop (lp (bodyOf Tryd.f49) 2) (.c (.ptr 0 0 0 0) :: J2 (.junk :: .c (.ptr 2 0 0 0) :: .c (.ptr 3 0 0 0) :: J4 (.c (.ptr 6 0 0 0) :: J16 (J8 (J4 (.c (.ro tMake x.2.2.2) :: .c (.int .i64 (x.2.2.2.length : Int)) :: .c (.int .i64 ((j : Nat) : Int)) :: J8 (J4 (.junk :: .c (.ro tI (x.2.2.2.getD j tMake.dflt).2.2.2) :: .c (.int .i64 ((x.2.2.2.getD j tMake.dflt).2.2.2.length : Int)) :: .c (.int .i64 (((k : Nat) : Int) + 1)) :: J16 (J4 ([])))))))))) [.cells 97 [.osl 1 1 at_.length, .bool (f && (cutOne at_ ((x.2.2.2.getD j tMake.dflt).2.2.2.getD k tI.dflt)).2)], .ovec 3 tI at_, .cells 27 [.int .i64 0, .int .i64 0, .nilsl, .nilsl], (bCl6 x ss ms), .ovec 116 tVal ss, .ovec 118 tMake ms, .cells 118 [.int .i64 (cutOne at_ (x.2.2.2.getD j tMake.dflt).1).1, .int .i64 (x.2.2.2.getD j tMake.dflt).2.1, .int .i64 (x.2.2.2.getD j tMake.dflt).2.2.1, .osl 9 1 (vs ++ [(cutOne at_ ((x.2.2.2.getD j tMake.dflt).2.2.2.getD k tI.dflt)).1]).length], .dead, .vec 3 tI ([(cutOne at_ ((x.2.2.2.getD j tMake.dflt).2.2.2.getD k tI.dflt)).1]), .ovec 3 tI (vs ++ [(cutOne at_ ((x.2.2.2.getD j tMake.dflt).2.2.2.getD k tI.dflt)).1])])
 (.need (vs.length = vs.length) <|
  .need (ms.length = ms.length) <|
  .need (0 = 0 ∧ 1 = ([((cutOne at_ (x.2.2.2.getD j tMake.dflt).1).1, ((x.2.2.2.getD j tMake.dflt).2.1, ((x.2.2.2.getD j tMake.dflt).2.2.1, vs)))]).length) <|
  .need ((ms.length + ([((cutOne at_ (x.2.2.2.getD j tMake.dflt).1).1, ((x.2.2.2.getD j tMake.dflt).2.1, ((x.2.2.2.getD j tMake.dflt).2.2.1, vs)))]).length) * 48 ≤ 140737488355328) <|
  .need (inR .i64 (((j : Nat) : Int) + 1)) <|
  .stop (lp (bodyOf Tryd.f49) 1) (.c (.ptr 0 0 0 0) :: J2 (.junk :: .c (.ptr 2 0 0 0) :: .c (.ptr 3 0 0 0) :: J4 (.c (.ptr 6 0 0 0) :: J16 (J8 (J4 (.c (.ro tMake x.2.2.2) :: .c (.int .i64 (x.2.2.2.length : Int)) :: .c (.int .i64 (((j : Nat) : Int) + 1)) :: J8 (bCl1 x j k))))))) [.cells 97 [.osl 1 1 at_.length, .bool f], .ovec 3 tI at_, .cells 27 [.int .i64 0, .int .i64 0, .nilsl, .nilsl], .cells 27 [.int .i64 x.1, .int .i64 x.2.1, .osl 4 2 ss.length, .osl 9 4 (ms ++ [((cutOne at_ (x.2.2.2.getD j tMake.dflt).1).1, ((x.2.2.2.getD j tMake.dflt).2.1, ((x.2.2.2.getD j tMake.dflt).2.2.1, vs)))]).length], .ovec 116 tVal ss, .dead, (bCl2 at_ x j vs), .dead, .vec 118 tMake ([((cutOne at_ (x.2.2.2.getD j tMake.dflt).1).1, ((x.2.2.2.getD j tMake.dflt).2.1, ((x.2.2.2.getD j tMake.dflt).2.2.1, vs)))]), .ovec 118 tMake (ms ++ [((cutOne at_ (x.2.2.2.getD j tMake.dflt).1).1, ((x.2.2.2.getD j tMake.dflt).2.1, ((x.2.2.2.getD j tMake.dflt).2.2.1, vs)))])])
theorem cexit_l2_R_ok (at_ : List Int) (fine : Bool) (x : EExit) (k : Nat) (j : Nat) (f : Bool) (ss : List EVal) (ms : List EMake) (vs : List Int) : aRound Tryd.prog oc21 Tryd.f49 cexit_lv 3000 (lp (bodyOf Tryd.f49) 2) (.c (.ptr 0 0 0 0) :: J2 (.junk :: .c (.ptr 2 0 0 0) :: .c (.ptr 3 0 0 0) :: J4 (.c (.ptr 6 0 0 0) :: J16 (J8 (J4 (.c (.ro tMake x.2.2.2) :: .c (.int .i64 (x.2.2.2.length : Int)) :: .c (.int .i64 ((j : Nat) : Int)) :: J8 (bCl1 x j k))))))) [.cells 97 [.osl 1 1 at_.length, .bool f], .ovec 3 tI at_, .cells 27 [.int .i64 0, .int .i64 0, .nilsl, .nilsl], (bCl6 x ss ms), .ovec 116 tVal ss, .ovec 118 tMake ms, (bCl2 at_ x j vs), .ovec 3 tI vs] = cexit_l2_R at_ fine x k j f ss ms vs := by kernel_rfl
theorem cexit_l2 (at_ : List Int) (fine : Bool) (x : EExit) (k : Nat) (j : Nat) (f : Bool) (ss : List EVal) (ms : List EMake) (vs : List Int) (hs : exitSm x) (hj : j < x.2.2.2.length ∧ ms.length ≤ j) (hb : vs.length ≤ k) (hn : ∀ (f' : Bool) (ms' : List EMake), ms'.length ≤ j + 1 → RunN 2 Tryd.prog 49 (finQ Tryd.prog 2 (.agg (Ty.enc tExit ((x.1, x.2.1, ss, ms' ++ (x.2.2.2.drop (j + 1)).map (cutMake at_))))) [.cells 97 [.osl 1 1 at_.length, .bool (f' && (x.2.2.2.drop (j + 1)).all (cutMakeOk at_))], .ovec 3 tI at_]) (lp (bodyOf Tryd.f49) 1) (.c (.ptr 0 0 0 0) :: J2 (.junk :: .c (.ptr 2 0 0 0) :: .c (.ptr 3 0 0 0) :: J32 (.junk :: .c (.ro tMake x.2.2.2) :: .c (.int .i64 (x.2.2.2.length : Int)) :: .c (.int .i64 (((j + 1) : Nat) : Int)) :: J32 (J4 ([]))))) [.cells 97 [.osl 1 1 at_.length, .bool f'], .ovec 3 tI at_, .cells 27 [.int .i64 0, .int .i64 0, .nilsl, .nilsl], .cells 27 [.int .i64 x.1, .int .i64 x.2.1, .osl 4 2 ss.length, .osl 5 4 ms'.length], .ovec 116 tVal ss, .ovec 118 tMake ms']) : RunN 2 Tryd.prog 49 (finQ Tryd.prog 2 (.agg (Ty.enc tExit ((x.1, x.2.1, ss, ms ++ ((cutOne at_ (x.2.2.2.getD j tMake.dflt).1).1, (x.2.2.2.getD j tMake.dflt).2.1, (x.2.2.2.getD j tMake.dflt).2.2.1, vs ++ ((x.2.2.2.getD j tMake.dflt).2.2.2.drop k).map (fun v => (cutOne at_ v).1)) :: (x.2.2.2.drop (j + 1)).map (cutMake at_))))) [.cells 97 [.osl 1 1 at_.length, .bool (f && (((x.2.2.2.getD j tMake.dflt).2.2.2.drop k).all (fun v => (cutOne at_ v).2) && (x.2.2.2.drop (j + 1)).all (cutMakeOk at_)))], .ovec 3 tI at_]) (lp (bodyOf Tryd.f49) 2) (.c (.ptr 0 0 0 0) :: J2 (.junk :: .c (.ptr 2 0 0 0) :: .c (.ptr 3 0 0 0) :: J4 (.c (.ptr 6 0 0 0) :: J16 (J8 (J4 (.c (.ro tMake x.2.2.2) :: .c (.int .i64 (x.2.2.2.length : Int)) :: .c (.int .i64 ((j : Nat) : Int)) :: J8 (bCl1 x j k))))))) [.cells 97 [.osl 1 1 at_.length, .bool f], .ovec 3 tI at_, .cells 27 [.int .i64 0, .int .i64 0, .nilsl, .nilsl], (bCl6 x ss ms), .ovec 116 tVal ss, .ovec 118 tMake ms, (bCl2 at_ x j vs), .ovec 3 tI vs] :=
 Run.roundA oc21 cexit_lv 3000 Tryd.func49 mixed (cexit_l2_R at_ fine x k j f ss ms vs) (cexit_l2_R_ok at_ fine x k j f ss ms vs) (by
  unfold cexit_l2_R
  refine g_iteD (fun h0 => ?_) (fun h0 => ?_)
  ·refine g_need (by omega) ?_
   refine g_need (by omega) ?_
   refine g_callH (AFunH.frameB [0, 1] (one_fun at_ f ((x.2.2.2.getD j tMake.dflt).2.2.2.getD k tI.dflt)) rfl rfl rfl rfl rfl rfl rfl) ?_
   refine g_need (rfl) ?_
   refine g_need (⟨rfl, rfl⟩) ?_
   refine g_need (by first | omega | (constructor <;> omega) | (rw [i64_iff]; omega) | (rw [i64_iff]; constructor <;> omega) | rfl | (simp; done) | (have q := hs.2.2 _ (getD_mem (α := EMake) (Ty.dflt tMake) (by omega : j < x.2.2.2.length)); have q1 := hs.1; have q2 := hs.2.1; (try simp only [List.length_cons, List.length_nil]); first | omega | (rw [i64_iff]; omega))) ?_
   refine g_need (by first | omega | (constructor <;> omega) | (rw [i64_iff]; omega) | (rw [i64_iff]; constructor <;> omega) | rfl | (simp; done) | (have q := hs.2.2 _ (getD_mem (α := EMake) (Ty.dflt tMake) (by omega : j < x.2.2.2.length)); have q1 := hs.1; have q2 := hs.2.1; (try simp only [List.length_cons, List.length_nil]); first | omega | (rw [i64_iff]; omega))) ?_
   refine g_stop (RunN.keep [0, 1, 2, 3, 4, 5, 6, 9] (true :: F2 (false :: true :: true :: F4 (true :: F16 (F8 (F4 (true :: true :: true :: F8 (F4 (false :: true :: true :: true :: F16 (F4 ([])))))))))) (show ∀ k, k < 2 → ([0, 1, 2, 3, 4, 5, 6, 9] : List Nat)[k]? = some k by decide) (by decide) rfl rfl ?_)
   have := cexit_l2 at_ fine x (k + 1) j (f && (cutOne at_ ((x.2.2.2.getD j tMake.dflt).2.2.2.getD k tI.dflt)).2) ss ms (vs ++ [(cutOne at_ ((x.2.2.2.getD j tMake.dflt).2.2.2.getD k tI.dflt)).1]) hs hj (by simp; omega) hn; have e1 : vs ++ ((x.2.2.2.getD j tMake.dflt).2.2.2.drop k).map (fun v => (cutOne at_ v).1) = (vs ++ [(cutOne at_ ((x.2.2.2.getD j tMake.dflt).2.2.2.getD k tI.dflt)).1]) ++ ((x.2.2.2.getD j tMake.dflt).2.2.2.drop (k + 1)).map (fun v => (cutOne at_ v).1) := (by rw [dropCons (α := Int) (Ty.dflt tI) (by omega)]; simp); have e2 : (f && (((x.2.2.2.getD j tMake.dflt).2.2.2.drop k).all (fun v => (cutOne at_ v).2) && (x.2.2.2.drop (j + 1)).all (cutMakeOk at_))) = ((f && (cutOne at_ ((x.2.2.2.getD j tMake.dflt).2.2.2.getD k tI.dflt)).2) && (((x.2.2.2.getD j tMake.dflt).2.2.2.drop (k + 1)).all (fun v => (cutOne at_ v).2) && (x.2.2.2.drop (j + 1)).all (cutMakeOk at_))) := (by rw [dropCons (α := Int) (Ty.dflt tI) (by omega), List.all_cons]; simp only [Bool.and_assoc]); rw [e1, e2]; exact this
  ·refine g_need (rfl) ?_
   refine g_need (rfl) ?_
   refine g_need (⟨rfl, rfl⟩) ?_
   refine g_need (by first | omega | (constructor <;> omega) | (rw [i64_iff]; omega) | (rw [i64_iff]; constructor <;> omega) | rfl | (simp; done) | (have q := hs.2.2 _ (getD_mem (α := EMake) (Ty.dflt tMake) (by omega : j < x.2.2.2.length)); have q1 := hs.1; have q2 := hs.2.1; (try simp only [List.length_cons, List.length_nil]); first | omega | (rw [i64_iff]; omega))) ?_
   refine g_need (by first | omega | (constructor <;> omega) | (rw [i64_iff]; omega) | (rw [i64_iff]; constructor <;> omega) | rfl | (simp; done) | (have q := hs.2.2 _ (getD_mem (α := EMake) (Ty.dflt tMake) (by omega : j < x.2.2.2.length)); have q1 := hs.1; have q2 := hs.2.1; (try simp only [List.length_cons, List.length_nil]); first | omega | (rw [i64_iff]; omega))) ?_
   refine g_stop (RunN.keep [0, 1, 2, 3, 4, 9] (true :: F2 (false :: true :: true :: F32 (false :: true :: true :: true :: F32 (F4 ([]))))) (show ∀ k, k < 2 → ([0, 1, 2, 3, 4, 9] : List Nat)[k]? = some k by decide) (by decide) rfl rfl ?_)
   have := hn f (ms ++ [((cutOne at_ (x.2.2.2.getD j tMake.dflt).1).1, (x.2.2.2.getD j tMake.dflt).2.1, (x.2.2.2.getD j tMake.dflt).2.2.1, vs)]) (by simp; omega); rw [show (x.2.2.2.getD j tMake.dflt).2.2.2.drop k = [] from List.drop_eq_nil_of_le (by omega), List.map_nil, List.append_nil, List.all_nil, Bool.true_and]; rw [List.append_assoc, List.singleton_append] at this; exact this
  )
 termination_by (x.2.2.2.getD j tMake.dflt).2.2.2.length - k
 decreasing_by all_goals omega
theorem cexit_l1 (at_ : List Int) (fine : Bool) (x : EExit) (j : Nat) (f : Bool) (ss : List EVal) (ms : List EMake) (hs : exitSm x) (hm : ms.length ≤ j) : RunN 2 Tryd.prog 49 (finQ Tryd.prog 2 (.agg (Ty.enc tExit ((x.1, x.2.1, ss, ms ++ (x.2.2.2.drop j).map (cutMake at_))))) [.cells 97 [.osl 1 1 at_.length, .bool (f && (x.2.2.2.drop j).all (cutMakeOk at_))], .ovec 3 tI at_]) (lp (bodyOf Tryd.f49) 1) (.c (.ptr 0 0 0 0) :: J2 (.junk :: .c (.ptr 2 0 0 0) :: .c (.ptr 3 0 0 0) :: J32 (.junk :: .c (.ro tMake x.2.2.2) :: .c (.int .i64 (x.2.2.2.length : Int)) :: .c (.int .i64 ((j : Nat) : Int)) :: J32 (J4 ([]))))) [.cells 97 [.osl 1 1 at_.length, .bool f], .ovec 3 tI at_, .cells 27 [.int .i64 0, .int .i64 0, .nilsl, .nilsl], (bCl6 x ss ms), .ovec 116 tVal ss, .ovec 118 tMake ms] :=
 Run.roundA oc21 cexit_lv 3000 Tryd.func49 mixed (cexit_l1_R at_ fine x j f ss ms) (cexit_l1_R_ok at_ fine x j f ss ms) (by
  unfold cexit_l1_R
  refine g_iteD (fun h0 => ?_) (fun h0 => ?_)
  ·refine g_need (by omega) ?_
   refine g_need (by omega) ?_
   refine g_callH (AFunH.frameB [0, 1] (one_fun at_ f (x.2.2.2.getD j tMake.dflt).1) rfl rfl rfl rfl rfl rfl rfl) ?_
   refine g_stop (RunN.keep [0, 1, 2, 3, 4, 5, 7, 1007] (true :: F2 (false :: true :: true :: F4 (true :: F16 (F8 (F4 (true :: true :: true :: F8 (F4 (false :: true :: true :: true :: F16 (F4 ([])))))))))) (show ∀ k, k < 2 → ([0, 1, 2, 3, 4, 5, 7, 1007] : List Nat)[k]? = some k by decide) (by decide) rfl rfl ?_)
   refine RunN.less (env' := (.c (.ptr 0 0 0 0) :: J2 (.junk :: .c (.ptr 2 0 0 0) :: .c (.ptr 3 0 0 0) :: J4 (.c (.ptr 6 0 0 0) :: J16 (J8 (J4 (.c (.ro tMake x.2.2.2) :: .c (.int .i64 (x.2.2.2.length : Int)) :: .c (.int .i64 ((j : Nat) : Int)) :: J8 (J4 (.junk :: .c (.ro tI (x.2.2.2.getD j tMake.dflt).2.2.2) :: .c (.int .i64 ((x.2.2.2.getD j tMake.dflt).2.2.2.length : Int)) :: .c (.int .i64 ((0 : Nat) : Int)) :: J16 (J4 ([]))))))))))) (H' := [.cells 97 [.osl 1 1 at_.length, .bool (f && (cutOne at_ (x.2.2.2.getD j tMake.dflt).1).2)], .ovec 3 tI at_, .cells 27 [.int .i64 0, .int .i64 0, .nilsl, .nilsl], (bCl6 x ss ms), .ovec 116 tVal ss, .ovec 118 tMake ms, .cells 118 [.int .i64 (cutOne at_ (x.2.2.2.getD j tMake.dflt).1).1, .int .i64 (x.2.2.2.getD j tMake.dflt).2.1, .int .i64 (x.2.2.2.getD j tMake.dflt).2.2.1, .osl 7 1 0], .ovec 3 tI ([])]) (leAVs.same rfl) (⟨leB.refl _, leB.refl _, leB.refl _, leB.refl _, leB.refl _, leB.refl _, ⟨rfl, leC.refl _, leC.refl _, leC.refl _, rfl, trivial⟩, rfl, trivial⟩) ?_
   have ht := cexit_l2 at_ fine x 0 j (f && (cutOne at_ (x.2.2.2.getD j tMake.dflt).1).2) ss ms ([]) hs ⟨by omega, hm⟩ (by simp) (fun f' ms' hq => cexit_l1 at_ fine x (j + 1) f' ss ms' hs hq); have e1 : ms ++ (x.2.2.2.drop j).map (cutMake at_) = ms ++ ((cutOne at_ (x.2.2.2.getD j tMake.dflt).1).1, (x.2.2.2.getD j tMake.dflt).2.1, (x.2.2.2.getD j tMake.dflt).2.2.1, [] ++ ((x.2.2.2.getD j tMake.dflt).2.2.2.drop 0).map (fun v => (cutOne at_ v).1)) :: (x.2.2.2.drop (j + 1)).map (cutMake at_) := (by rw [dropCons (α := EMake) (Ty.dflt tMake) (by omega : j < x.2.2.2.length)]; rfl); have e2 : (f && (x.2.2.2.drop j).all (cutMakeOk at_)) = ((f && (cutOne at_ (x.2.2.2.getD j tMake.dflt).1).2) && (((x.2.2.2.getD j tMake.dflt).2.2.2.drop 0).all (fun v => (cutOne at_ v).2) && (x.2.2.2.drop (j + 1)).all (cutMakeOk at_))) := (by rw [dropCons (α := EMake) (Ty.dflt tMake) (by omega : j < x.2.2.2.length), List.all_cons]; simp only [cutMakeOk, Bool.and_assoc, List.drop_zero]); rw [e1, e2]; exact ht
  ·refine g_fin ?_
   refine g_need (rfl) ?_
   refine g_need (rfl) ?_
   exact g_end [0, 1] (show ∀ k, k < 2 → ([0, 1] : List Nat)[k]? = some k by decide) (by decide) (⟨⟨rfl, (show (x.1 : Int) = (x.1, x.2.1, ss, ms ++ (x.2.2.2.drop j).map (cutMake at_)).1 from by first | rfl | (rw [List.drop_eq_nil_of_le (by omega)]; simp; done))⟩, ⟨rfl, (show (x.2.1 : Int) = (x.1, x.2.1, ss, ms ++ (x.2.2.2.drop j).map (cutMake at_)).2.1 from by first | rfl | (rw [List.drop_eq_nil_of_le (by omega)]; simp; done))⟩, ⟨rfl, (show (ss) = (x.1, x.2.1, ss, ms ++ (x.2.2.2.drop j).map (cutMake at_)).2.2.1 from by first | rfl | (rw [List.drop_eq_nil_of_le (by omega)]; simp; done))⟩, ⟨rfl, (show (ms) = (x.1, x.2.1, ss, ms ++ (x.2.2.2.drop j).map (cutMake at_)).2.2.2 from by first | rfl | (rw [List.drop_eq_nil_of_le (by omega)]; simp; done))⟩, trivial⟩) ⟨⟨rfl, leC.refl _, (show (f : Bool) = (f && (x.2.2.2.drop j).all (cutMakeOk at_)) from by first | rfl | (rw [List.drop_eq_nil_of_le (by omega)]; simp; done)), trivial⟩, leB.refl _, trivial⟩
  )
 termination_by x.2.2.2.length - j
 decreasing_by all_goals omega
theorem cexit_l0 (at_ : List Int) (fine : Bool) (x : EExit) (i : Nat) (f : Bool) (ss : List EVal) (hs : exitSm x) (hm : ss.length ≤ i) : RunN 2 Tryd.prog 49 (finQ Tryd.prog 2 (.agg (Ty.enc tExit ((x.1, x.2.1, ss ++ (x.2.2.1.drop i).map (cutSet at_), x.2.2.2.map (cutMake at_))))) [.cells 97 [.osl 1 1 at_.length, .bool (f && ((x.2.2.1.drop i).all (cutSetOk at_) && x.2.2.2.all (cutMakeOk at_)))], .ovec 3 tI at_]) (lp (bodyOf Tryd.f49) 0) (.c (.ptr 0 0 0 0) :: J2 (.c (.ptr 2 0 0 0) :: .c (.ptr 3 0 0 0) :: .c (.ptr 4 0 0 0) :: J8 (J4 (.junk :: .c (.ro tVal x.2.2.1) :: .c (.int .i64 (x.2.2.1.length : Int)) :: .c (.int .i64 ((i : Nat) : Int)) :: J32 (J16 (J8 ([]))))))) [.cells 97 [.osl 1 1 at_.length, .bool f], .ovec 3 tI at_, .cells 27 (Ty.enc tExit x), .cells 27 [.int .i64 0, .int .i64 0, .nilsl, .nilsl], .cells 27 [.int .i64 x.1, .int .i64 x.2.1, .osl 5 2 ss.length, .nilsl], .ovec 116 tVal ss] :=
 Run.roundA oc21 cexit_lv 3000 Tryd.func49 mixed (cexit_l0_R at_ fine x i f ss) (cexit_l0_R_ok at_ fine x i f ss) (by
  unfold cexit_l0_R
  refine g_iteD (fun h0 => ?_) (fun h0 => ?_)
  ·refine g_need (by omega) ?_
   refine g_need (by omega) ?_
   refine g_callH (AFunH.frameB [0, 1] (one_fun at_ f (x.2.2.1.getD i tVal.dflt).2) rfl rfl rfl rfl rfl rfl rfl) ?_
   refine g_need (rfl) ?_
   refine g_need (⟨rfl, rfl⟩) ?_
   refine g_need (by first | omega | (constructor <;> omega) | (rw [i64_iff]; omega) | (rw [i64_iff]; constructor <;> omega) | rfl | (simp; done) | (have q1 := hs.1; have q2 := hs.2.1; (try simp only [List.length_cons, List.length_nil]); first | omega | (rw [i64_iff]; omega))) ?_
   refine g_need (by first | omega | (constructor <;> omega) | (rw [i64_iff]; omega) | (rw [i64_iff]; constructor <;> omega) | rfl | (simp; done) | (have q1 := hs.1; have q2 := hs.2.1; (try simp only [List.length_cons, List.length_nil]); first | omega | (rw [i64_iff]; omega))) ?_
   refine g_stop (RunN.keep [0, 1, 2, 3, 4, 8] (true :: F2 (true :: true :: true :: F8 (F4 (false :: true :: true :: true :: F32 (F16 (F8 ([]))))))) (show ∀ k, k < 2 → ([0, 1, 2, 3, 4, 8] : List Nat)[k]? = some k by decide) (by decide) rfl rfl ?_)
   have ht := cexit_l0 at_ fine x (i + 1) (f && (cutOne at_ (x.2.2.1.getD i tVal.dflt).2).2) (ss ++ [((x.2.2.1.getD i tVal.dflt).1, (cutOne at_ (x.2.2.1.getD i tVal.dflt).2).1)]) hs (by simp; omega); have e1 : ss ++ (x.2.2.1.drop i).map (cutSet at_) = (ss ++ [cutSet at_ (x.2.2.1.getD i tVal.dflt)]) ++ (x.2.2.1.drop (i + 1)).map (cutSet at_) := (by rw [dropCons (α := EVal) (Ty.dflt tVal) (by omega)]; simp); have e2 : (f && ((x.2.2.1.drop i).all (cutSetOk at_) && x.2.2.2.all (cutMakeOk at_))) = ((f && (cutOne at_ (x.2.2.1.getD i tVal.dflt).2).2) && ((x.2.2.1.drop (i + 1)).all (cutSetOk at_) && x.2.2.2.all (cutMakeOk at_))) := (by rw [dropCons (α := EVal) (Ty.dflt tVal) (by omega), List.all_cons]; simp only [cutSetOk, Bool.and_assoc]); rw [e1, e2]; exact ht
  ·refine g_stop (RunN.keep [0, 1, 3, 4, 5, 1005] (true :: F2 (false :: true :: true :: F32 (false :: true :: true :: true :: F32 (F4 ([]))))) (show ∀ k, k < 2 → ([0, 1, 3, 4, 5, 1005] : List Nat)[k]? = some k by decide) (by decide) rfl rfl ?_)
   refine RunN.less (env' := (.c (.ptr 0 0 0 0) :: J2 (.junk :: .c (.ptr 2 0 0 0) :: .c (.ptr 3 0 0 0) :: J32 (.junk :: .c (.ro tMake x.2.2.2) :: .c (.int .i64 (x.2.2.2.length : Int)) :: .c (.int .i64 ((0 : Nat) : Int)) :: J32 (J4 ([])))))) (H' := [.cells 97 [.osl 1 1 at_.length, .bool f], .ovec 3 tI at_, .cells 27 [.int .i64 0, .int .i64 0, .nilsl, .nilsl], .cells 27 [.int .i64 x.1, .int .i64 x.2.1, .osl 4 2 ss.length, .osl 5 4 0], .ovec 116 tVal ss, .ovec 118 tMake ([])]) (leAVs.same rfl) (⟨leB.refl _, leB.refl _, leB.refl _, ⟨rfl, leC.refl _, leC.refl _, leC.refl _, rfl, trivial⟩, leB.refl _, rfl, trivial⟩) ?_
   have ht := cexit_l1 at_ fine x 0 f ss ([]) hs (by simp); rw [List.drop_zero, List.nil_append] at ht; rw [show x.2.2.1.drop i = [] from List.drop_eq_nil_of_le (by omega), List.map_nil, List.append_nil, List.all_nil, Bool.true_and]; exact ht
  )
 termination_by x.2.2.1.length - i
 decreasing_by all_goals omega
theorem cexit_fun (at_ : List Int) (fine : Bool) (x : EExit) (hs : exitSm x) : AFunH Tryd.prog 49 [.c (.ptr 0 0 0 0), .agg (tExit.enc x)] [.cells 97 [.osl 1 1 at_.length, .bool fine], .ovec 3 tI at_] (.agg (Ty.enc tExit (cutExit at_ x))) [.cells 97 [.osl 1 1 at_.length, .bool (fine && cutExitOk at_ x)], .ovec 3 tI at_] (List.range 2) :=
 AFunH.ofL oc21 cexit_lv 3000 Tryd.func49 mixed rfl (by decide) (Nat.le_of_ble_eq_true rfl) rfl rfl (Nat.le_of_ble_eq_true rfl) _ (cexit_T_ok at_ fine x) fun hF => by
  unfold cexit_T
  refine g_stop (RunN.keep [0, 1, 2, 3, 4, 1005] (true :: F2 (true :: true :: true :: F8 (F4 (false :: true :: true :: true :: F32 (F16 (F8 ([]))))))) (show ∀ k, k < 2 → ([0, 1, 2, 3, 4, 1005] : List Nat)[k]? = some k by decide) (by decide) rfl rfl ?_)
  refine RunN.less (env' := (.c (.ptr 0 0 0 0) :: J2 (.c (.ptr 2 0 0 0) :: .c (.ptr 3 0 0 0) :: .c (.ptr 4 0 0 0) :: J8 (J4 (.junk :: .c (.ro tVal x.2.2.1) :: .c (.int .i64 (x.2.2.1.length : Int)) :: .c (.int .i64 ((0 : Nat) : Int)) :: J32 (J16 (J8 ([])))))))) (H' := [.cells 97 [.osl 1 1 at_.length, .bool fine], .ovec 3 tI at_, .cells 27 (Ty.enc tExit x), .cells 27 [.int .i64 0, .int .i64 0, .nilsl, .nilsl], .cells 27 [.int .i64 x.1, .int .i64 x.2.1, .osl 5 2 0, .nilsl], .ovec 116 tVal ([])]) (leAVs.same rfl) (⟨leB.refl _, leB.refl _, leB.refl _, leB.refl _, ⟨rfl, leC.refl _, leC.refl _, rfl, leC.refl _, trivial⟩, rfl, trivial⟩) ?_
  exact cexit_l0 at_ fine x 0 fine ([]) hs (by simp)

def stepV (at_ : List Int) (n k v : Int) : Int := if k < n then (cutOne at_ v).1 else v
def stepOk (at_ : List Int) (n k v : Int) : Bool := if k < n then (cutOne at_ v).2 else true
def cutAsks (op : Int) : Int := if (ofF op).2 = true then (ofF op).1.1 else 0
def cutIns (at_ : List Int) (x : EIns) : EIns := (x.1, stepV at_ (cutAsks x.1) 0 x.2.1, stepV at_ (cutAsks x.1) 1 x.2.2.1, stepV at_ (cutAsks x.1) 2 x.2.2.2.1, x.2.2.2.2)
def cutInsOk (at_ : List Int) (x : EIns) : Bool := stepOk at_ (cutAsks x.1) 0 x.2.1 && (stepOk at_ (cutAsks x.1) 1 x.2.2.1 && stepOk at_ (cutAsks x.1) 2 x.2.2.2.1)
noncomputable def oc22 : Orc where
 pure := fun f args => match f, args with
  | 43, [a0] => match dA tI a0 with
   | some x0 => some (.tup [.agg (Ty.enc tForm ((ofF x0).1)), .c (.bool ((ofF x0).2))])
   | _ => none
  | _, _ => none
 heap := fun f args H => match f, args with
  | 88, [.one (.c (.ptr b0 0 0 0)), a1] => match cellsAs 97 H[b0]? with
   | some [.osl b1 1 _, c0_1] => (match dA tI a1, dC .bool c0_1, ovecAs 3 tI H[b1]? with
    | some x1, some y0_1, some y1 => hres [b0, b1] H (.c (.int .i64 ((cutOne y1 x1).1))) [.cells 97 [.osl 1 1 y1.length, .bool (y0_1 && (cutOne y1 x1).2)], .ovec 3 tI y1]
    | _, _, _ => none)
   | _ => none
  | _, _ => none
def cins_lv : LV := ⟨(true :: F2 (true :: true :: F16 (F2 (true :: true :: true :: F8 (F4 ([])))))), []⟩
abbrev bCl5 : AB := .cells 46 [.int .i64 0, .int .i64 0, .int .i64 0, .int .i64 0, .int .i64 0, .int .i64 0, .int .i64 0, .int .i64 0]
noncomputable def cins_T (at_ : List Int) (fine : Bool) (x : EIns) : Tree :=
 .call 43 [.c (.int .i64 x.1)] false (.tup [.agg [.int .i64 (ofF x.1).1.1, .int .i64 (ofF x.1).1.2.1, .int .i64 (ofF x.1).1.2.2.1, .bool (ofF x.1).1.2.2.2.1, .bool (ofF x.1).1.2.2.2.2.1, .int .i64 (ofF x.1).1.2.2.2.2.2], .c (.bool (ofF x.1).2)]) <|
 .ite ((ofF x.1).2)
 (.need ((0 : Int) ≤ (ofF x.1).1.1 ∧ ((ofF x.1).1.1 : Int) ≤ ((3 : Nat) : Int)) <|
  .stop (lp (bodyOf Tryd.f48) 0) (.c (.ptr 0 0 0 0) :: J2 (.c (.ptr 2 0 0 0) :: .c (.ptr 3 0 0 0) :: J16 (J2 (.c (.pre 5 1 (Int.toNat (ofF x.1).1.1)) :: .c (.int .i64 (((Int.toNat (ofF x.1).1.1) : Nat) : Int)) :: .c (.int .i64 0) :: J8 (J4 ([])))))) [.cells 97 [.osl 1 1 at_.length, .bool fine], .ovec 3 tI at_, .cells 46 (Ty.enc tIns x), bCl5, .cells 88 [.int .i64 (ofF x.1).1.1, .int .i64 (ofF x.1).1.2.1, .int .i64 (ofF x.1).1.2.2.1, .bool (ofF x.1).1.2.2.2.1, .bool (ofF x.1).1.2.2.2.2.1, .int .i64 (ofF x.1).1.2.2.2.2.2], .cells 156 [.ptr 2 0 0 1, .ptr 2 0 0 2, .ptr 2 0 0 3]])
 (.ret (.agg (Ty.enc tIns x)) [.cells 97 [.osl 1 1 at_.length, .bool fine], .ovec 3 tI at_, .cells 46 (Ty.enc tIns x), .cells 46 (Ty.enc tIns x), .cells 88 [.int .i64 (ofF x.1).1.1, .int .i64 (ofF x.1).1.2.1, .int .i64 (ofF x.1).1.2.2.1, .bool (ofF x.1).1.2.2.2.1, .bool (ofF x.1).1.2.2.2.2.1, .int .i64 (ofF x.1).1.2.2.2.2.2], .cells 156 [.ptr 2 0 0 1, .ptr 2 0 0 2, .ptr 2 0 0 3]])
theorem cins_T_ok (at_ : List Int) (fine : Bool) (x : EIns) : aRun Tryd.prog oc22 Tryd.f48 cins_lv 3000 [.code (bodyOf Tryd.f48)] ([.c (.ptr 0 0 0 0), .agg (tIns.enc x)] ++ List.replicate (Func.ntmps Tryd.f48 - 2) .junk) [.cells 97 [.osl 1 1 at_.length, .bool fine], .ovec 3 tI at_] = cins_T at_ fine x := by kernel_rfl
abbrev bCl3 (x : EIns) (a0 : Int) (a1 : Int) (a2 : Int) : AB := .cells 46 [.int .i64 x.1, .int .i64 a0, .int .i64 a1, .int .i64 a2, .int .i64 x.2.2.2.2.1, .int .i64 x.2.2.2.2.2.1, .int .i64 x.2.2.2.2.2.2.1, .int .i64 x.2.2.2.2.2.2.2]
abbrev bCl4 (x : EIns) (a0 : Int) (a1 : Int) (a2 : Int) : List CV := [.int .i64 x.1, .int .i64 a0, .int .i64 a1, .int .i64 a2, .int .i64 x.2.2.2.2.1, .int .i64 x.2.2.2.2.2.1, .int .i64 x.2.2.2.2.2.2.1, .int .i64 x.2.2.2.2.2.2.2]
noncomputable def cins_i3_R (at_ : List Int) (fine : Bool) (x : EIns) (f : Bool) (a0 : Int) (a1 : Int) (a2 : Int) : Tree :=
 .ite (decide ((3 : Int) < (((Int.toNat (ofF x.1).1.1) : Nat) : Int)))
 (.need ((0 : Int) ≤ 3 ∧ (3 : Int) < (((Int.toNat (ofF x.1).1.1) : Nat) : Int)) <|
  .fail 10)
 (.ret (.agg (bCl4 x a0 a1 a2)) [.cells 97 [.osl 1 1 at_.length, .bool f], .ovec 3 tI at_, (bCl3 x a0 a1 a2), (bCl3 x a0 a1 a2), .cells 156 [.ptr 2 0 0 1, .ptr 2 0 0 2, .ptr 2 0 0 3]])
theorem cins_i3_R_ok (at_ : List Int) (fine : Bool) (x : EIns) (f : Bool) (a0 : Int) (a1 : Int) (a2 : Int) : aRound Tryd.prog oc22 Tryd.f48 cins_lv 3000 (lp (bodyOf Tryd.f48) 0) (.c (.ptr 0 0 0 0) :: J2 (.c (.ptr 2 0 0 0) :: .c (.ptr 3 0 0 0) :: J16 (J2 (.c (.pre 4 1 (Int.toNat (ofF x.1).1.1)) :: .c (.int .i64 (((Int.toNat (ofF x.1).1.1) : Nat) : Int)) :: .c (.int .i64 3) :: J8 (J4 ([])))))) [.cells 97 [.osl 1 1 at_.length, .bool f], .ovec 3 tI at_, (bCl3 x a0 a1 a2), bCl5, .cells 156 [.ptr 2 0 0 1, .ptr 2 0 0 2, .ptr 2 0 0 3]] = cins_i3_R at_ fine x f a0 a1 a2 := by kernel_rfl
noncomputable def cins_i2_R (at_ : List Int) (fine : Bool) (x : EIns) (f : Bool) (a0 : Int) (a1 : Int) (a2 : Int) : Tree :=
 .ite (decide ((2 : Int) < (((Int.toNat (ofF x.1).1.1) : Nat) : Int)))
 (.need ((0 : Int) ≤ 2 ∧ (2 : Int) < (((Int.toNat (ofF x.1).1.1) : Nat) : Int)) <|
  .callH 88 [.c (.ptr 0 0 0 0), .c (.int .i64 a2)] [.cells 97 [.osl 1 1 at_.length, .bool f], .ovec 3 tI at_, (bCl3 x a0 a1 a2), bCl5, .cells 156 [.ptr 2 0 0 1, .ptr 2 0 0 2, .ptr 2 0 0 3]] (.c (.int .i64 (cutOne at_ a2).1)) [.cells 97 [.osl 1 1 at_.length, .bool (f && (cutOne at_ a2).2)], .ovec 3 tI at_, (bCl3 x a0 a1 a2), bCl5, .cells 156 [.ptr 2 0 0 1, .ptr 2 0 0 2, .ptr 2 0 0 3]] [0, 1] <|
  .need (inR .i64 (2 + 1)) <|
  .stop (lp (bodyOf Tryd.f48) 0) (.c (.ptr 0 0 0 0) :: J2 (.c (.ptr 2 0 0 0) :: .c (.ptr 3 0 0 0) :: J16 (J2 (.c (.pre 4 1 (Int.toNat (ofF x.1).1.1)) :: .c (.int .i64 (((Int.toNat (ofF x.1).1.1) : Nat) : Int)) :: .c (.int .i64 (2 + 1)) :: J8 (J4 ([])))))) [.cells 97 [.osl 1 1 at_.length, .bool (f && (cutOne at_ a2).2)], .ovec 3 tI at_, .cells 46 [.int .i64 x.1, .int .i64 a0, .int .i64 a1, .int .i64 (cutOne at_ a2).1, .int .i64 x.2.2.2.2.1, .int .i64 x.2.2.2.2.2.1, .int .i64 x.2.2.2.2.2.2.1, .int .i64 x.2.2.2.2.2.2.2], bCl5, .cells 156 [.ptr 2 0 0 1, .ptr 2 0 0 2, .ptr 2 0 0 3]])
 (.ret (.agg (bCl4 x a0 a1 a2)) [.cells 97 [.osl 1 1 at_.length, .bool f], .ovec 3 tI at_, (bCl3 x a0 a1 a2), (bCl3 x a0 a1 a2), .cells 156 [.ptr 2 0 0 1, .ptr 2 0 0 2, .ptr 2 0 0 3]])
theorem cins_i2_R_ok (at_ : List Int) (fine : Bool) (x : EIns) (f : Bool) (a0 : Int) (a1 : Int) (a2 : Int) : aRound Tryd.prog oc22 Tryd.f48 cins_lv 3000 (lp (bodyOf Tryd.f48) 0) (.c (.ptr 0 0 0 0) :: J2 (.c (.ptr 2 0 0 0) :: .c (.ptr 3 0 0 0) :: J16 (J2 (.c (.pre 4 1 (Int.toNat (ofF x.1).1.1)) :: .c (.int .i64 (((Int.toNat (ofF x.1).1.1) : Nat) : Int)) :: .c (.int .i64 2) :: J8 (J4 ([])))))) [.cells 97 [.osl 1 1 at_.length, .bool f], .ovec 3 tI at_, (bCl3 x a0 a1 a2), bCl5, .cells 156 [.ptr 2 0 0 1, .ptr 2 0 0 2, .ptr 2 0 0 3]] = cins_i2_R at_ fine x f a0 a1 a2 := by kernel_rfl
noncomputable def cins_i1_R (at_ : List Int) (fine : Bool) (x : EIns) (f : Bool) (a0 : Int) (a1 : Int) (a2 : Int) : Tree :=
 .ite (decide ((1 : Int) < (((Int.toNat (ofF x.1).1.1) : Nat) : Int)))
 (.need ((0 : Int) ≤ 1 ∧ (1 : Int) < (((Int.toNat (ofF x.1).1.1) : Nat) : Int)) <|
  .callH 88 [.c (.ptr 0 0 0 0), .c (.int .i64 a1)] [.cells 97 [.osl 1 1 at_.length, .bool f], .ovec 3 tI at_, (bCl3 x a0 a1 a2), bCl5, .cells 156 [.ptr 2 0 0 1, .ptr 2 0 0 2, .ptr 2 0 0 3]] (.c (.int .i64 (cutOne at_ a1).1)) [.cells 97 [.osl 1 1 at_.length, .bool (f && (cutOne at_ a1).2)], .ovec 3 tI at_, (bCl3 x a0 a1 a2), bCl5, .cells 156 [.ptr 2 0 0 1, .ptr 2 0 0 2, .ptr 2 0 0 3]] [0, 1] <|
  .need (inR .i64 (1 + 1)) <|
  .stop (lp (bodyOf Tryd.f48) 0) (.c (.ptr 0 0 0 0) :: J2 (.c (.ptr 2 0 0 0) :: .c (.ptr 3 0 0 0) :: J16 (J2 (.c (.pre 4 1 (Int.toNat (ofF x.1).1.1)) :: .c (.int .i64 (((Int.toNat (ofF x.1).1.1) : Nat) : Int)) :: .c (.int .i64 (1 + 1)) :: J8 (J4 ([])))))) [.cells 97 [.osl 1 1 at_.length, .bool (f && (cutOne at_ a1).2)], .ovec 3 tI at_, .cells 46 [.int .i64 x.1, .int .i64 a0, .int .i64 (cutOne at_ a1).1, .int .i64 a2, .int .i64 x.2.2.2.2.1, .int .i64 x.2.2.2.2.2.1, .int .i64 x.2.2.2.2.2.2.1, .int .i64 x.2.2.2.2.2.2.2], bCl5, .cells 156 [.ptr 2 0 0 1, .ptr 2 0 0 2, .ptr 2 0 0 3]])
 (.ret (.agg (bCl4 x a0 a1 a2)) [.cells 97 [.osl 1 1 at_.length, .bool f], .ovec 3 tI at_, (bCl3 x a0 a1 a2), (bCl3 x a0 a1 a2), .cells 156 [.ptr 2 0 0 1, .ptr 2 0 0 2, .ptr 2 0 0 3]])
theorem cins_i1_R_ok (at_ : List Int) (fine : Bool) (x : EIns) (f : Bool) (a0 : Int) (a1 : Int) (a2 : Int) : aRound Tryd.prog oc22 Tryd.f48 cins_lv 3000 (lp (bodyOf Tryd.f48) 0) (.c (.ptr 0 0 0 0) :: J2 (.c (.ptr 2 0 0 0) :: .c (.ptr 3 0 0 0) :: J16 (J2 (.c (.pre 4 1 (Int.toNat (ofF x.1).1.1)) :: .c (.int .i64 (((Int.toNat (ofF x.1).1.1) : Nat) : Int)) :: .c (.int .i64 1) :: J8 (J4 ([])))))) [.cells 97 [.osl 1 1 at_.length, .bool f], .ovec 3 tI at_, (bCl3 x a0 a1 a2), bCl5, .cells 156 [.ptr 2 0 0 1, .ptr 2 0 0 2, .ptr 2 0 0 3]] = cins_i1_R at_ fine x f a0 a1 a2 := by kernel_rfl
noncomputable def cins_i0_R (at_ : List Int) (fine : Bool) (x : EIns) (f : Bool) (a0 : Int) (a1 : Int) (a2 : Int) : Tree :=
 .ite (decide ((0 : Int) < (((Int.toNat (ofF x.1).1.1) : Nat) : Int)))
 (.need ((0 : Int) ≤ 0 ∧ (0 : Int) < (((Int.toNat (ofF x.1).1.1) : Nat) : Int)) <|
  .callH 88 [.c (.ptr 0 0 0 0), .c (.int .i64 a0)] [.cells 97 [.osl 1 1 at_.length, .bool f], .ovec 3 tI at_, (bCl3 x a0 a1 a2), bCl5, .cells 156 [.ptr 2 0 0 1, .ptr 2 0 0 2, .ptr 2 0 0 3]] (.c (.int .i64 (cutOne at_ a0).1)) [.cells 97 [.osl 1 1 at_.length, .bool (f && (cutOne at_ a0).2)], .ovec 3 tI at_, (bCl3 x a0 a1 a2), bCl5, .cells 156 [.ptr 2 0 0 1, .ptr 2 0 0 2, .ptr 2 0 0 3]] [0, 1] <|
  .need (inR .i64 (0 + 1)) <|
  .stop (lp (bodyOf Tryd.f48) 0) (.c (.ptr 0 0 0 0) :: J2 (.c (.ptr 2 0 0 0) :: .c (.ptr 3 0 0 0) :: J16 (J2 (.c (.pre 4 1 (Int.toNat (ofF x.1).1.1)) :: .c (.int .i64 (((Int.toNat (ofF x.1).1.1) : Nat) : Int)) :: .c (.int .i64 (0 + 1)) :: J8 (J4 ([])))))) [.cells 97 [.osl 1 1 at_.length, .bool (f && (cutOne at_ a0).2)], .ovec 3 tI at_, .cells 46 [.int .i64 x.1, .int .i64 (cutOne at_ a0).1, .int .i64 a1, .int .i64 a2, .int .i64 x.2.2.2.2.1, .int .i64 x.2.2.2.2.2.1, .int .i64 x.2.2.2.2.2.2.1, .int .i64 x.2.2.2.2.2.2.2], bCl5, .cells 156 [.ptr 2 0 0 1, .ptr 2 0 0 2, .ptr 2 0 0 3]])
 (.ret (.agg (bCl4 x a0 a1 a2)) [.cells 97 [.osl 1 1 at_.length, .bool f], .ovec 3 tI at_, (bCl3 x a0 a1 a2), (bCl3 x a0 a1 a2), .cells 156 [.ptr 2 0 0 1, .ptr 2 0 0 2, .ptr 2 0 0 3]])
theorem cins_i0_R_ok (at_ : List Int) (fine : Bool) (x : EIns) (f : Bool) (a0 : Int) (a1 : Int) (a2 : Int) : aRound Tryd.prog oc22 Tryd.f48 cins_lv 3000 (lp (bodyOf Tryd.f48) 0) (.c (.ptr 0 0 0 0) :: J2 (.c (.ptr 2 0 0 0) :: .c (.ptr 3 0 0 0) :: J16 (J2 (.c (.pre 4 1 (Int.toNat (ofF x.1).1.1)) :: .c (.int .i64 (((Int.toNat (ofF x.1).1.1) : Nat) : Int)) :: .c (.int .i64 0) :: J8 (J4 ([])))))) [.cells 97 [.osl 1 1 at_.length, .bool f], .ovec 3 tI at_, (bCl3 x a0 a1 a2), bCl5, .cells 156 [.ptr 2 0 0 1, .ptr 2 0 0 2, .ptr 2 0 0 3]] = cins_i0_R at_ fine x f a0 a1 a2 := by kernel_rfl
theorem cins_i3 (at_ : List Int) (fine : Bool) (x : EIns) (f : Bool) (a0 : Int) (a1 : Int) (a2 : Int) (ha : 0 ≤ (ofF x.1).1.1 ∧ (ofF x.1).1.1 ≤ 3) : RunN 2 Tryd.prog 48 (finQ Tryd.prog 2 (.agg (Ty.enc tIns ((x.1, a0, a1, a2, x.2.2.2.2)))) [.cells 97 [.osl 1 1 at_.length, .bool f], .ovec 3 tI at_]) (lp (bodyOf Tryd.f48) 0) (.c (.ptr 0 0 0 0) :: J2 (.c (.ptr 2 0 0 0) :: .c (.ptr 3 0 0 0) :: J16 (J2 (.c (.pre 4 1 (Int.toNat (ofF x.1).1.1)) :: .c (.int .i64 (((Int.toNat (ofF x.1).1.1) : Nat) : Int)) :: .c (.int .i64 3) :: J8 (J4 ([])))))) [.cells 97 [.osl 1 1 at_.length, .bool f], .ovec 3 tI at_, (bCl3 x a0 a1 a2), bCl5, .cells 156 [.ptr 2 0 0 1, .ptr 2 0 0 2, .ptr 2 0 0 3]] :=
 Run.roundA oc22 cins_lv 3000 Tryd.func48 mixed (cins_i3_R at_ fine x f a0 a1 a2) (cins_i3_R_ok at_ fine x f a0 a1 a2) (by
  unfold cins_i3_R
  refine g_iteD (fun h0 => ?_) (fun h0 => ?_)
  ·refine g_need (by omega) ?_
   exact (show False from by first | omega | (constructor <;> omega) | (rw [i64_iff]; omega) | (rw [i64_iff]; constructor <;> omega) | rfl | (simp; done) | (simp; omega))
  ·refine g_fin ?_
   exact g_end [0, 1] (show ∀ k, k < 2 → ([0, 1] : List Nat)[k]? = some k by decide) (by decide) (⟨⟨rfl, (show (x.1 : Int) = (x.1, a0, a1, a2, x.2.2.2.2).1 from by rfl)⟩, ⟨rfl, (show (a0 : Int) = (x.1, a0, a1, a2, x.2.2.2.2).2.1 from by rfl)⟩, ⟨rfl, (show (a1 : Int) = (x.1, a0, a1, a2, x.2.2.2.2).2.2.1 from by rfl)⟩, ⟨rfl, (show (a2 : Int) = (x.1, a0, a1, a2, x.2.2.2.2).2.2.2.1 from by rfl)⟩, ⟨rfl, (show (x.2.2.2.2.1 : Int) = (x.1, a0, a1, a2, x.2.2.2.2).2.2.2.2.1 from by rfl)⟩, ⟨rfl, (show (x.2.2.2.2.2.1 : Int) = (x.1, a0, a1, a2, x.2.2.2.2).2.2.2.2.2.1 from by rfl)⟩, ⟨rfl, (show (x.2.2.2.2.2.2.1 : Int) = (x.1, a0, a1, a2, x.2.2.2.2).2.2.2.2.2.2.1 from by rfl)⟩, ⟨rfl, (show (x.2.2.2.2.2.2.2 : Int) = (x.1, a0, a1, a2, x.2.2.2.2).2.2.2.2.2.2.2 from by rfl)⟩, trivial⟩) ⟨leB.refl _, leB.refl _, trivial⟩
  )
theorem cins_i2 (at_ : List Int) (fine : Bool) (x : EIns) (f : Bool) (a0 : Int) (a1 : Int) (a2 : Int) (ha : 0 ≤ (ofF x.1).1.1 ∧ (ofF x.1).1.1 ≤ 3) : RunN 2 Tryd.prog 48 (finQ Tryd.prog 2 (.agg (Ty.enc tIns ((x.1, a0, a1, stepV at_ (ofF x.1).1.1 2 a2, x.2.2.2.2)))) [.cells 97 [.osl 1 1 at_.length, .bool (f && stepOk at_ (ofF x.1).1.1 2 a2)], .ovec 3 tI at_]) (lp (bodyOf Tryd.f48) 0) (.c (.ptr 0 0 0 0) :: J2 (.c (.ptr 2 0 0 0) :: .c (.ptr 3 0 0 0) :: J16 (J2 (.c (.pre 4 1 (Int.toNat (ofF x.1).1.1)) :: .c (.int .i64 (((Int.toNat (ofF x.1).1.1) : Nat) : Int)) :: .c (.int .i64 2) :: J8 (J4 ([])))))) [.cells 97 [.osl 1 1 at_.length, .bool f], .ovec 3 tI at_, (bCl3 x a0 a1 a2), bCl5, .cells 156 [.ptr 2 0 0 1, .ptr 2 0 0 2, .ptr 2 0 0 3]] :=
 Run.roundA oc22 cins_lv 3000 Tryd.func48 mixed (cins_i2_R at_ fine x f a0 a1 a2) (cins_i2_R_ok at_ fine x f a0 a1 a2) (by
  unfold cins_i2_R
  refine g_iteD (fun h0 => ?_) (fun h0 => ?_)
  ·refine g_need (by omega) ?_
   refine g_callH (AFunH.frameB [0, 1] (one_fun at_ f a2) rfl rfl rfl rfl rfl rfl rfl) ?_
   refine g_need (i64_iff.2 (by omega)) ?_
   refine g_stop (RunN.keep [0, 1, 2, 3, 4] (true :: F2 (true :: true :: F16 (F2 (true :: true :: true :: F8 (F4 ([])))))) (show ∀ k, k < 2 → ([0, 1, 2, 3, 4] : List Nat)[k]? = some k by decide) (by decide) rfl rfl ?_)
   have ht := cins_i3 at_ fine x (f && (cutOne at_ a2).2) a0 a1 (cutOne at_ a2).1 ha; have e1 : stepV at_ (ofF x.1).1.1 2 a2 = (cutOne at_ a2).1 := if_pos (by omega); have e2 : stepOk at_ (ofF x.1).1.1 2 a2 = (cutOne at_ a2).2 := if_pos (by omega); rw [e1, e2]; exact ht
  ·refine g_fin ?_
   exact g_end [0, 1] (show ∀ k, k < 2 → ([0, 1] : List Nat)[k]? = some k by decide) (by decide) (⟨⟨rfl, (show (x.1 : Int) = (x.1, a0, a1, stepV at_ (ofF x.1).1.1 2 a2, x.2.2.2.2).1 from by first | rfl | exact (if_neg (by omega)).symm | (simp only [stepOk, if_neg (show ¬ (2 : Int) < (ofF x.1).1.1 by omega), Bool.and_true]; done))⟩, ⟨rfl, (show (a0 : Int) = (x.1, a0, a1, stepV at_ (ofF x.1).1.1 2 a2, x.2.2.2.2).2.1 from by first | rfl | exact (if_neg (by omega)).symm | (simp only [stepOk, if_neg (show ¬ (2 : Int) < (ofF x.1).1.1 by omega), Bool.and_true]; done))⟩, ⟨rfl, (show (a1 : Int) = (x.1, a0, a1, stepV at_ (ofF x.1).1.1 2 a2, x.2.2.2.2).2.2.1 from by first | rfl | exact (if_neg (by omega)).symm | (simp only [stepOk, if_neg (show ¬ (2 : Int) < (ofF x.1).1.1 by omega), Bool.and_true]; done))⟩, ⟨rfl, (show (a2 : Int) = (x.1, a0, a1, stepV at_ (ofF x.1).1.1 2 a2, x.2.2.2.2).2.2.2.1 from by first | rfl | exact (if_neg (by omega)).symm | (simp only [stepOk, if_neg (show ¬ (2 : Int) < (ofF x.1).1.1 by omega), Bool.and_true]; done))⟩, ⟨rfl, (show (x.2.2.2.2.1 : Int) = (x.1, a0, a1, stepV at_ (ofF x.1).1.1 2 a2, x.2.2.2.2).2.2.2.2.1 from by first | rfl | exact (if_neg (by omega)).symm | (simp only [stepOk, if_neg (show ¬ (2 : Int) < (ofF x.1).1.1 by omega), Bool.and_true]; done))⟩, ⟨rfl, (show (x.2.2.2.2.2.1 : Int) = (x.1, a0, a1, stepV at_ (ofF x.1).1.1 2 a2, x.2.2.2.2).2.2.2.2.2.1 from by first | rfl | exact (if_neg (by omega)).symm | (simp only [stepOk, if_neg (show ¬ (2 : Int) < (ofF x.1).1.1 by omega), Bool.and_true]; done))⟩, ⟨rfl, (show (x.2.2.2.2.2.2.1 : Int) = (x.1, a0, a1, stepV at_ (ofF x.1).1.1 2 a2, x.2.2.2.2).2.2.2.2.2.2.1 from by first | rfl | exact (if_neg (by omega)).symm | (simp only [stepOk, if_neg (show ¬ (2 : Int) < (ofF x.1).1.1 by omega), Bool.and_true]; done))⟩, ⟨rfl, (show (x.2.2.2.2.2.2.2 : Int) = (x.1, a0, a1, stepV at_ (ofF x.1).1.1 2 a2, x.2.2.2.2).2.2.2.2.2.2.2 from by first | rfl | exact (if_neg (by omega)).symm | (simp only [stepOk, if_neg (show ¬ (2 : Int) < (ofF x.1).1.1 by omega), Bool.and_true]; done))⟩, trivial⟩) ⟨⟨rfl, leC.refl _, (show (f : Bool) = (f && stepOk at_ (ofF x.1).1.1 2 a2) from by first | rfl | exact (if_neg (by omega)).symm | (simp only [stepOk, if_neg (show ¬ (2 : Int) < (ofF x.1).1.1 by omega), Bool.and_true]; done)), trivial⟩, leB.refl _, trivial⟩
  )
theorem cins_i1 (at_ : List Int) (fine : Bool) (x : EIns) (f : Bool) (a0 : Int) (a1 : Int) (a2 : Int) (ha : 0 ≤ (ofF x.1).1.1 ∧ (ofF x.1).1.1 ≤ 3) : RunN 2 Tryd.prog 48 (finQ Tryd.prog 2 (.agg (Ty.enc tIns ((x.1, a0, stepV at_ (ofF x.1).1.1 1 a1, stepV at_ (ofF x.1).1.1 2 a2, x.2.2.2.2)))) [.cells 97 [.osl 1 1 at_.length, .bool (f && (stepOk at_ (ofF x.1).1.1 1 a1 && stepOk at_ (ofF x.1).1.1 2 a2))], .ovec 3 tI at_]) (lp (bodyOf Tryd.f48) 0) (.c (.ptr 0 0 0 0) :: J2 (.c (.ptr 2 0 0 0) :: .c (.ptr 3 0 0 0) :: J16 (J2 (.c (.pre 4 1 (Int.toNat (ofF x.1).1.1)) :: .c (.int .i64 (((Int.toNat (ofF x.1).1.1) : Nat) : Int)) :: .c (.int .i64 1) :: J8 (J4 ([])))))) [.cells 97 [.osl 1 1 at_.length, .bool f], .ovec 3 tI at_, (bCl3 x a0 a1 a2), bCl5, .cells 156 [.ptr 2 0 0 1, .ptr 2 0 0 2, .ptr 2 0 0 3]] :=
 Run.roundA oc22 cins_lv 3000 Tryd.func48 mixed (cins_i1_R at_ fine x f a0 a1 a2) (cins_i1_R_ok at_ fine x f a0 a1 a2) (by
  unfold cins_i1_R
  refine g_iteD (fun h0 => ?_) (fun h0 => ?_)
  ·refine g_need (by omega) ?_
   refine g_callH (AFunH.frameB [0, 1] (one_fun at_ f a1) rfl rfl rfl rfl rfl rfl rfl) ?_
   refine g_need (i64_iff.2 (by omega)) ?_
   refine g_stop (RunN.keep [0, 1, 2, 3, 4] (true :: F2 (true :: true :: F16 (F2 (true :: true :: true :: F8 (F4 ([])))))) (show ∀ k, k < 2 → ([0, 1, 2, 3, 4] : List Nat)[k]? = some k by decide) (by decide) rfl rfl ?_)
   have ht := cins_i2 at_ fine x (f && (cutOne at_ a1).2) a0 (cutOne at_ a1).1 a2 ha; have e1 : stepV at_ (ofF x.1).1.1 1 a1 = (cutOne at_ a1).1 := if_pos (by omega); have e2 : stepOk at_ (ofF x.1).1.1 1 a1 = (cutOne at_ a1).2 := if_pos (by omega); rw [e1, e2]; rw [← Bool.and_assoc]; exact ht
  ·refine g_fin ?_
   exact g_end [0, 1] (show ∀ k, k < 2 → ([0, 1] : List Nat)[k]? = some k by decide) (by decide) (⟨⟨rfl, (show (x.1 : Int) = (x.1, a0, stepV at_ (ofF x.1).1.1 1 a1, stepV at_ (ofF x.1).1.1 2 a2, x.2.2.2.2).1 from by first | rfl | exact (if_neg (by omega)).symm | (simp only [stepOk, if_neg (show ¬ (1 : Int) < (ofF x.1).1.1 by omega), if_neg (show ¬ (2 : Int) < (ofF x.1).1.1 by omega), Bool.and_true]; done))⟩, ⟨rfl, (show (a0 : Int) = (x.1, a0, stepV at_ (ofF x.1).1.1 1 a1, stepV at_ (ofF x.1).1.1 2 a2, x.2.2.2.2).2.1 from by first | rfl | exact (if_neg (by omega)).symm | (simp only [stepOk, if_neg (show ¬ (1 : Int) < (ofF x.1).1.1 by omega), if_neg (show ¬ (2 : Int) < (ofF x.1).1.1 by omega), Bool.and_true]; done))⟩, ⟨rfl, (show (a1 : Int) = (x.1, a0, stepV at_ (ofF x.1).1.1 1 a1, stepV at_ (ofF x.1).1.1 2 a2, x.2.2.2.2).2.2.1 from by first | rfl | exact (if_neg (by omega)).symm | (simp only [stepOk, if_neg (show ¬ (1 : Int) < (ofF x.1).1.1 by omega), if_neg (show ¬ (2 : Int) < (ofF x.1).1.1 by omega), Bool.and_true]; done))⟩, ⟨rfl, (show (a2 : Int) = (x.1, a0, stepV at_ (ofF x.1).1.1 1 a1, stepV at_ (ofF x.1).1.1 2 a2, x.2.2.2.2).2.2.2.1 from by first | rfl | exact (if_neg (by omega)).symm | (simp only [stepOk, if_neg (show ¬ (1 : Int) < (ofF x.1).1.1 by omega), if_neg (show ¬ (2 : Int) < (ofF x.1).1.1 by omega), Bool.and_true]; done))⟩, ⟨rfl, (show (x.2.2.2.2.1 : Int) = (x.1, a0, stepV at_ (ofF x.1).1.1 1 a1, stepV at_ (ofF x.1).1.1 2 a2, x.2.2.2.2).2.2.2.2.1 from by first | rfl | exact (if_neg (by omega)).symm | (simp only [stepOk, if_neg (show ¬ (1 : Int) < (ofF x.1).1.1 by omega), if_neg (show ¬ (2 : Int) < (ofF x.1).1.1 by omega), Bool.and_true]; done))⟩, ⟨rfl, (show (x.2.2.2.2.2.1 : Int) = (x.1, a0, stepV at_ (ofF x.1).1.1 1 a1, stepV at_ (ofF x.1).1.1 2 a2, x.2.2.2.2).2.2.2.2.2.1 from by first | rfl | exact (if_neg (by omega)).symm | (simp only [stepOk, if_neg (show ¬ (1 : Int) < (ofF x.1).1.1 by omega), if_neg (show ¬ (2 : Int) < (ofF x.1).1.1 by omega), Bool.and_true]; done))⟩, ⟨rfl, (show (x.2.2.2.2.2.2.1 : Int) = (x.1, a0, stepV at_ (ofF x.1).1.1 1 a1, stepV at_ (ofF x.1).1.1 2 a2, x.2.2.2.2).2.2.2.2.2.2.1 from by first | rfl | exact (if_neg (by omega)).symm | (simp only [stepOk, if_neg (show ¬ (1 : Int) < (ofF x.1).1.1 by omega), if_neg (show ¬ (2 : Int) < (ofF x.1).1.1 by omega), Bool.and_true]; done))⟩, ⟨rfl, (show (x.2.2.2.2.2.2.2 : Int) = (x.1, a0, stepV at_ (ofF x.1).1.1 1 a1, stepV at_ (ofF x.1).1.1 2 a2, x.2.2.2.2).2.2.2.2.2.2.2 from by first | rfl | exact (if_neg (by omega)).symm | (simp only [stepOk, if_neg (show ¬ (1 : Int) < (ofF x.1).1.1 by omega), if_neg (show ¬ (2 : Int) < (ofF x.1).1.1 by omega), Bool.and_true]; done))⟩, trivial⟩) ⟨⟨rfl, leC.refl _, (show (f : Bool) = (f && (stepOk at_ (ofF x.1).1.1 1 a1 && stepOk at_ (ofF x.1).1.1 2 a2)) from by first | rfl | exact (if_neg (by omega)).symm | (simp only [stepOk, if_neg (show ¬ (1 : Int) < (ofF x.1).1.1 by omega), if_neg (show ¬ (2 : Int) < (ofF x.1).1.1 by omega), Bool.and_true]; done)), trivial⟩, leB.refl _, trivial⟩
  )
theorem cins_i0 (at_ : List Int) (fine : Bool) (x : EIns) (f : Bool) (a0 : Int) (a1 : Int) (a2 : Int) (ha : 0 ≤ (ofF x.1).1.1 ∧ (ofF x.1).1.1 ≤ 3) : RunN 2 Tryd.prog 48 (finQ Tryd.prog 2 (.agg (Ty.enc tIns ((x.1, stepV at_ (ofF x.1).1.1 0 a0, stepV at_ (ofF x.1).1.1 1 a1, stepV at_ (ofF x.1).1.1 2 a2, x.2.2.2.2)))) [.cells 97 [.osl 1 1 at_.length, .bool (f && (stepOk at_ (ofF x.1).1.1 0 a0 && (stepOk at_ (ofF x.1).1.1 1 a1 && stepOk at_ (ofF x.1).1.1 2 a2)))], .ovec 3 tI at_]) (lp (bodyOf Tryd.f48) 0) (.c (.ptr 0 0 0 0) :: J2 (.c (.ptr 2 0 0 0) :: .c (.ptr 3 0 0 0) :: J16 (J2 (.c (.pre 4 1 (Int.toNat (ofF x.1).1.1)) :: .c (.int .i64 (((Int.toNat (ofF x.1).1.1) : Nat) : Int)) :: .c (.int .i64 0) :: J8 (J4 ([])))))) [.cells 97 [.osl 1 1 at_.length, .bool f], .ovec 3 tI at_, (bCl3 x a0 a1 a2), bCl5, .cells 156 [.ptr 2 0 0 1, .ptr 2 0 0 2, .ptr 2 0 0 3]] :=
 Run.roundA oc22 cins_lv 3000 Tryd.func48 mixed (cins_i0_R at_ fine x f a0 a1 a2) (cins_i0_R_ok at_ fine x f a0 a1 a2) (by
  unfold cins_i0_R
  refine g_iteD (fun h0 => ?_) (fun h0 => ?_)
  ·refine g_need (by omega) ?_
   refine g_callH (AFunH.frameB [0, 1] (one_fun at_ f a0) rfl rfl rfl rfl rfl rfl rfl) ?_
   refine g_need (i64_iff.2 (by omega)) ?_
   refine g_stop (RunN.keep [0, 1, 2, 3, 4] (true :: F2 (true :: true :: F16 (F2 (true :: true :: true :: F8 (F4 ([])))))) (show ∀ k, k < 2 → ([0, 1, 2, 3, 4] : List Nat)[k]? = some k by decide) (by decide) rfl rfl ?_)
   have ht := cins_i1 at_ fine x (f && (cutOne at_ a0).2) (cutOne at_ a0).1 a1 a2 ha; have e1 : stepV at_ (ofF x.1).1.1 0 a0 = (cutOne at_ a0).1 := if_pos (by omega); have e2 : stepOk at_ (ofF x.1).1.1 0 a0 = (cutOne at_ a0).2 := if_pos (by omega); rw [e1, e2]; rw [← Bool.and_assoc]; exact ht
  ·refine g_fin ?_
   exact g_end [0, 1] (show ∀ k, k < 2 → ([0, 1] : List Nat)[k]? = some k by decide) (by decide) (⟨⟨rfl, (show (x.1 : Int) = (x.1, stepV at_ (ofF x.1).1.1 0 a0, stepV at_ (ofF x.1).1.1 1 a1, stepV at_ (ofF x.1).1.1 2 a2, x.2.2.2.2).1 from by first | rfl | exact (if_neg (by omega)).symm | (simp only [stepOk, if_neg (show ¬ (0 : Int) < (ofF x.1).1.1 by omega), if_neg (show ¬ (1 : Int) < (ofF x.1).1.1 by omega), if_neg (show ¬ (2 : Int) < (ofF x.1).1.1 by omega), Bool.and_true]; done))⟩, ⟨rfl, (show (a0 : Int) = (x.1, stepV at_ (ofF x.1).1.1 0 a0, stepV at_ (ofF x.1).1.1 1 a1, stepV at_ (ofF x.1).1.1 2 a2, x.2.2.2.2).2.1 from by first | rfl | exact (if_neg (by omega)).symm | (simp only [stepOk, if_neg (show ¬ (0 : Int) < (ofF x.1).1.1 by omega), if_neg (show ¬ (1 : Int) < (ofF x.1).1.1 by omega), if_neg (show ¬ (2 : Int) < (ofF x.1).1.1 by omega), Bool.and_true]; done))⟩, ⟨rfl, (show (a1 : Int) = (x.1, stepV at_ (ofF x.1).1.1 0 a0, stepV at_ (ofF x.1).1.1 1 a1, stepV at_ (ofF x.1).1.1 2 a2, x.2.2.2.2).2.2.1 from by first | rfl | exact (if_neg (by omega)).symm | (simp only [stepOk, if_neg (show ¬ (0 : Int) < (ofF x.1).1.1 by omega), if_neg (show ¬ (1 : Int) < (ofF x.1).1.1 by omega), if_neg (show ¬ (2 : Int) < (ofF x.1).1.1 by omega), Bool.and_true]; done))⟩, ⟨rfl, (show (a2 : Int) = (x.1, stepV at_ (ofF x.1).1.1 0 a0, stepV at_ (ofF x.1).1.1 1 a1, stepV at_ (ofF x.1).1.1 2 a2, x.2.2.2.2).2.2.2.1 from by first | rfl | exact (if_neg (by omega)).symm | (simp only [stepOk, if_neg (show ¬ (0 : Int) < (ofF x.1).1.1 by omega), if_neg (show ¬ (1 : Int) < (ofF x.1).1.1 by omega), if_neg (show ¬ (2 : Int) < (ofF x.1).1.1 by omega), Bool.and_true]; done))⟩, ⟨rfl, (show (x.2.2.2.2.1 : Int) = (x.1, stepV at_ (ofF x.1).1.1 0 a0, stepV at_ (ofF x.1).1.1 1 a1, stepV at_ (ofF x.1).1.1 2 a2, x.2.2.2.2).2.2.2.2.1 from by first | rfl | exact (if_neg (by omega)).symm | (simp only [stepOk, if_neg (show ¬ (0 : Int) < (ofF x.1).1.1 by omega), if_neg (show ¬ (1 : Int) < (ofF x.1).1.1 by omega), if_neg (show ¬ (2 : Int) < (ofF x.1).1.1 by omega), Bool.and_true]; done))⟩, ⟨rfl, (show (x.2.2.2.2.2.1 : Int) = (x.1, stepV at_ (ofF x.1).1.1 0 a0, stepV at_ (ofF x.1).1.1 1 a1, stepV at_ (ofF x.1).1.1 2 a2, x.2.2.2.2).2.2.2.2.2.1 from by first | rfl | exact (if_neg (by omega)).symm | (simp only [stepOk, if_neg (show ¬ (0 : Int) < (ofF x.1).1.1 by omega), if_neg (show ¬ (1 : Int) < (ofF x.1).1.1 by omega), if_neg (show ¬ (2 : Int) < (ofF x.1).1.1 by omega), Bool.and_true]; done))⟩, ⟨rfl, (show (x.2.2.2.2.2.2.1 : Int) = (x.1, stepV at_ (ofF x.1).1.1 0 a0, stepV at_ (ofF x.1).1.1 1 a1, stepV at_ (ofF x.1).1.1 2 a2, x.2.2.2.2).2.2.2.2.2.2.1 from by first | rfl | exact (if_neg (by omega)).symm | (simp only [stepOk, if_neg (show ¬ (0 : Int) < (ofF x.1).1.1 by omega), if_neg (show ¬ (1 : Int) < (ofF x.1).1.1 by omega), if_neg (show ¬ (2 : Int) < (ofF x.1).1.1 by omega), Bool.and_true]; done))⟩, ⟨rfl, (show (x.2.2.2.2.2.2.2 : Int) = (x.1, stepV at_ (ofF x.1).1.1 0 a0, stepV at_ (ofF x.1).1.1 1 a1, stepV at_ (ofF x.1).1.1 2 a2, x.2.2.2.2).2.2.2.2.2.2.2 from by first | rfl | exact (if_neg (by omega)).symm | (simp only [stepOk, if_neg (show ¬ (0 : Int) < (ofF x.1).1.1 by omega), if_neg (show ¬ (1 : Int) < (ofF x.1).1.1 by omega), if_neg (show ¬ (2 : Int) < (ofF x.1).1.1 by omega), Bool.and_true]; done))⟩, trivial⟩) ⟨⟨rfl, leC.refl _, (show (f : Bool) = (f && (stepOk at_ (ofF x.1).1.1 0 a0 && (stepOk at_ (ofF x.1).1.1 1 a1 && stepOk at_ (ofF x.1).1.1 2 a2))) from by first | rfl | exact (if_neg (by omega)).symm | (simp only [stepOk, if_neg (show ¬ (0 : Int) < (ofF x.1).1.1 by omega), if_neg (show ¬ (1 : Int) < (ofF x.1).1.1 by omega), if_neg (show ¬ (2 : Int) < (ofF x.1).1.1 by omega), Bool.and_true]; done)), trivial⟩, leB.refl _, trivial⟩
  )
theorem cins_fun (at_ : List Int) (fine : Bool) (x : EIns) : AFunH Tryd.prog 48 [.c (.ptr 0 0 0 0), .agg (tIns.enc x)] [.cells 97 [.osl 1 1 at_.length, .bool fine], .ovec 3 tI at_] (.agg (Ty.enc tIns (cutIns at_ x))) [.cells 97 [.osl 1 1 at_.length, .bool (fine && cutInsOk at_ x)], .ovec 3 tI at_] (List.range 2) :=
 AFunH.ofL oc22 cins_lv 3000 Tryd.func48 mixed rfl (by decide) (Nat.le_of_ble_eq_true rfl) rfl rfl (Nat.le_of_ble_eq_true rfl) _ (cins_T_ok at_ fine x) fun hF => by
  have ha := ofF_asks x.1
  unfold cins_T
  refine g_call (of__fun x.1) (fun h => nomatch h) ?_
  refine g_ite (fun h0 => ?_) (fun h0 => ?_)
  ·refine g_need (by first | omega | (constructor <;> omega) | (rw [i64_iff]; omega) | (rw [i64_iff]; constructor <;> omega) | rfl | (simp; done) | (simp; omega)) ?_
   refine g_stop (RunN.keep [0, 1, 2, 3, 5] (true :: F2 (true :: true :: F16 (F2 (true :: true :: true :: F8 (F4 ([])))))) (show ∀ k, k < 2 → ([0, 1, 2, 3, 5] : List Nat)[k]? = some k by decide) (by decide) rfl rfl ?_)
   have ht := cins_i0 at_ fine x fine x.2.1 x.2.2.1 x.2.2.2.1 ha; have e : cutAsks x.1 = (ofF x.1).1.1 := if_pos h0; simp only [cutIns, cutInsOk, e]; exact ht
  ·refine g_fin ?_
   exact g_end [0, 1] (show ∀ k, k < 2 → ([0, 1] : List Nat)[k]? = some k by decide) (by decide) (⟨⟨rfl, (show (x.1 : Int) = (cutIns at_ x).1 from by simp only [cutIns, cutInsOk, stepV, stepOk, cutAsks, h0, if_false, Bool.false_eq_true, Int.lt_irrefl, Bool.and_true] <;> first | done | rfl | simp)⟩, ⟨rfl, (show (x.2.1 : Int) = (cutIns at_ x).2.1 from by simp only [cutIns, cutInsOk, stepV, stepOk, cutAsks, h0, if_false, Bool.false_eq_true, Int.lt_irrefl, Bool.and_true] <;> first | done | rfl | simp)⟩, ⟨rfl, (show (x.2.2.1 : Int) = (cutIns at_ x).2.2.1 from by simp only [cutIns, cutInsOk, stepV, stepOk, cutAsks, h0, if_false, Bool.false_eq_true, Int.lt_irrefl, Bool.and_true] <;> first | done | rfl | simp)⟩, ⟨rfl, (show (x.2.2.2.1 : Int) = (cutIns at_ x).2.2.2.1 from by simp only [cutIns, cutInsOk, stepV, stepOk, cutAsks, h0, if_false, Bool.false_eq_true, Int.lt_irrefl, Bool.and_true] <;> first | done | rfl | simp)⟩, ⟨rfl, (show (x.2.2.2.2.1 : Int) = (cutIns at_ x).2.2.2.2.1 from by simp only [cutIns, cutInsOk, stepV, stepOk, cutAsks, h0, if_false, Bool.false_eq_true, Int.lt_irrefl, Bool.and_true] <;> first | done | rfl | simp)⟩, ⟨rfl, (show (x.2.2.2.2.2.1 : Int) = (cutIns at_ x).2.2.2.2.2.1 from by simp only [cutIns, cutInsOk, stepV, stepOk, cutAsks, h0, if_false, Bool.false_eq_true, Int.lt_irrefl, Bool.and_true] <;> first | done | rfl | simp)⟩, ⟨rfl, (show (x.2.2.2.2.2.2.1 : Int) = (cutIns at_ x).2.2.2.2.2.2.1 from by simp only [cutIns, cutInsOk, stepV, stepOk, cutAsks, h0, if_false, Bool.false_eq_true, Int.lt_irrefl, Bool.and_true] <;> first | done | rfl | simp)⟩, ⟨rfl, (show (x.2.2.2.2.2.2.2 : Int) = (cutIns at_ x).2.2.2.2.2.2.2 from by simp only [cutIns, cutInsOk, stepV, stepOk, cutAsks, h0, if_false, Bool.false_eq_true, Int.lt_irrefl, Bool.and_true] <;> first | done | rfl | simp)⟩, trivial⟩) ⟨⟨rfl, leC.refl _, (show (fine : Bool) = (fine && cutInsOk at_ x) from by simp only [cutIns, cutInsOk, stepV, stepOk, cutAsks, h0, if_false, Bool.false_eq_true, Int.lt_irrefl, Bool.and_true] <;> first | done | rfl | simp), trivial⟩, leB.refl _, trivial⟩

end Go.Proofs.YtefkifdhjabdiaaDoor
