/- checksum: the document's words (bit by bit), and whether bytes are the same. -/
import Derived.Test.YtnjijefhnmnjgaaCkB
namespace Go.Proofs.Ytnjijefhnmnjgaa.Ck
open Go Go.Va Go.Proofs.Ytnjijefhnmnjgaa.Va
set_option linter.unusedVariables false
set_option linter.unusedSimpArgs false
set_option maxRecDepth 20000
/-- One bit, as the document has it. -/
def rbit (c : BitVec 8) (k : Nat) (n : BitVec 32) : BitVec 32 := if (c >>> k).setWidth 32 % 2#32 = n % 2#32 then n / 2#32 else n / 2#32 ^^^ 3988292384#32
def rbits (c : BitVec 8) (n : BitVec 32) : Nat → BitVec 32
  | 0 => n
  | k + 1 => rbit c k (rbits c n k)
def rbyte (n : BitVec 32) (c : BitVec 8) : BitVec 32 := rbits c n 8
def rsum (b : List (BitVec 8)) : BitVec 32 := 4294967295#32 - b.foldl rbyte 4294967295#32
theorem rem32 (x : BitVec 32) (y : Int) (h0 : 0 < y) (h1 : y < 4294967296) : (x.toNat : Int).tmod y = ((x % BitVec.ofInt 32 y).toNat : Int) := by
  rw [BitVec.toNat_umod, BitVec.toNat_ofInt, Int.tmod_eq_emod_of_nonneg (by omega)]
  have : y % (2 ^ 32 : Nat) = y := by omega
  rw [this, Int.natCast_emod, Int.toNat_of_nonneg (by omega)]
theorem quo32 (x : BitVec 32) (y : Int) (h0 : 0 < y) (h1 : y < 4294967296) : IntKind.u32.wrap ((x.toNat : Int).tdiv y) = ((x / BitVec.ofInt 32 y).toNat : Int) := by
  have hx := x.isLt
  rw [BitVec.toNat_udiv, BitVec.toNat_ofInt, Int.tdiv_eq_ediv_of_nonneg (by omega), IntKind.wrap_u32]
  have : y % (2 ^ 32 : Nat) = y := by omega
  rw [this, Int.natCast_ediv, Int.toNat_of_nonneg (by omega)]
  have h2 : (x.toNat : Int) / y ≤ x.toNat := Int.ediv_le_self _ (by omega)
  have h3 : 0 ≤ (x.toNat : Int) / y := Int.ediv_nonneg (by omega) (by omega)
  omega
theorem sub32 (y : Int) (x : BitVec 32) (h0 : 0 ≤ y) (h1 : y < 4294967296) : IntKind.u32.wrap (y - (x.toNat : Int)) = ((BitVec.ofInt 32 y - x).toNat : Int) := by
  have hx := x.isLt
  rw [BitVec.toNat_sub, BitVec.toNat_ofInt, IntKind.wrap_u32]
  omega

theorem F15_calls (b : List (BitVec 8)) (a : AV) (ha : Sl 1 (bys b) a) (hb : b.length ≤ 1000000) (σ : St) : ACall Try.prog 15 [a] σ (fun r σ' => r = .int .u32 (rsum b).toNat ∧ σ' = σ) := by
  refine acall_intro tyOk (fun _ => false) Try.func15 (by decide) rfl (Nat.le_of_ble_eq_true rfl) ?_
  refine wpc_seq ?_
  refine wpc_region rfl ?_
  refine wpo_op rfl rfl rfl rfl (by simp only [aop, pairO, Bool.false_eq_true, Bool.true_eq_false, List.toList_toArray, aeval, upd_same, upd_other, ne_eq, not_false_eq_true, frame0, ofConst, ↓reduceIte, Nat.reduceEqDiff, List.getD_cons_zero, List.getD_cons_succ, Option.map_some, Option.map_none]; rfl) ?_
  refine wpo_nil ?_
  refine wpc_seq ?_
  refine wpc_region rfl ?_
  refine wpo_op rfl rfl rfl rfl (by simp only [aop, pairO, Bool.false_eq_true, Bool.true_eq_false, List.toList_toArray, aeval, upd_same, upd_other, ne_eq, not_false_eq_true, frame0, ofConst, ↓reduceIte, Nat.reduceEqDiff, List.getD_cons_zero, List.getD_cons_succ, Option.map_some, Option.map_none]; rfl) ?_
  refine wpo_nil ?_
  refine wpc_seq ?_
  refine wpc_seq ?_
  refine wpc_region rfl ?_
  refine wpo_op rfl rfl rfl rfl (by simp only [aop, pairO, Bool.false_eq_true, Bool.true_eq_false, List.toList_toArray, aeval, upd_same, upd_other, ne_eq, not_false_eq_true, frame0, ofConst, ↓reduceIte, Nat.reduceEqDiff, List.getD_cons_zero, List.getD_cons_succ, Option.map_some, Option.map_none]; rfl) ?_
  refine wpo_nil ?_
  refine wpc_block ?_
  refine wpc_for tyOk b.length (fun i fr σ' => i ≤ b.length ∧ fr 0 = a ∧ fr 3 = .int .u32 ((b.take i).foldl rbyte 4294967295#32).toNat ∧ fr 4 = .int .i64 i ∧ σ' = σ) 0 ⟨by omega, rfl, rfl, rfl, rfl⟩ ?_
  rintro i fr τ ⟨hi, h0, h3, h4, hτ⟩
  obtain rfl := hτ.symm
  refine wpc_seq ?_
  refine wpc_seq ?_
  refine wpc_region rfl ?_
  refine wpo_op rfl rfl rfl rfl (by simp only [aop, pairO, Bool.false_eq_true, Bool.true_eq_false, List.toList_toArray, aeval, upd_same, upd_other, ne_eq, not_false_eq_true, frame0, ofConst, ↓reduceIte, Nat.reduceEqDiff, List.getD_cons_zero, List.getD_cons_succ, Option.map_some, Option.map_none, h4]; rfl) ?_
  refine wpo_op rfl rfl rfl rfl (by simp only [aop, pairO, Bool.false_eq_true, Bool.true_eq_false, List.toList_toArray, aeval, upd_same, upd_other, ne_eq, not_false_eq_true, frame0, ofConst, ↓reduceIte, Nat.reduceEqDiff, List.getD_cons_zero, List.getD_cons_succ, Option.map_some, Option.map_none, h0]; rfl) ?_
  refine wpo_op rfl rfl rfl rfl (by simp only [aop, pairO, Bool.false_eq_true, Bool.true_eq_false, List.toList_toArray, aeval, upd_same, upd_other, ne_eq, not_false_eq_true, frame0, ofConst, ↓reduceIte, Nat.reduceEqDiff, List.getD_cons_zero, List.getD_cons_succ, Option.map_some, Option.map_none, ha.len td22, bys_length]; rfl) ?_
  refine wpo_op rfl rfl rfl rfl (by simp only [aop, pairO, Bool.false_eq_true, Bool.true_eq_false, List.toList_toArray, aeval, upd_same, upd_other, ne_eq, not_false_eq_true, frame0, ofConst, ↓reduceIte, Nat.reduceEqDiff, List.getD_cons_zero, List.getD_cons_succ, Option.map_some, Option.map_none, abin', abin, aarith, beq_bv8, beq_bv32, beq_bv64, aeq, astr, isC, reduceCtorEq, cv_u8, cv_u16, cv_u32, cv_u64, cv_i64_u8, cv_i64_u16, cv_i64_u32, xor_u8, xor_u32, xor_u64, and_u8, and_u32, and_u64, or_u8, or_u64, xor_u32_lit, and_u32_lit, and_u64_lit, and_u8_lit, shr_u8, shr_u32, shr_u64, beq_bv, Int.reduceLE, Int.reduceLT, Int.reduceToNat, BitVec.reduceOfInt, td3]; rfl) ?_
  refine wpo_nil ?_
  refine wpc_cond (by simp only [aop, pairO, Bool.false_eq_true, Bool.true_eq_false, List.toList_toArray, aeval, upd_same, upd_other, ne_eq, not_false_eq_true, frame0, ofConst, ↓reduceIte, Nat.reduceEqDiff, List.getD_cons_zero, List.getD_cons_succ, Option.map_some, Option.map_none]; rfl) (fun hb0 => ?_) (fun hb0 => ?_)
  ·
    have hlt : i < b.length := by have := of_decide_eq_true hb0; omega
    refine wpc_skip ?_
    refine wpc_seq ?_
    refine wpc_block ?_
    refine wpc_seq ?_
    refine wpc_region rfl ?_
    refine wpo_op rfl rfl rfl rfl (by simp only [aop, pairO, Bool.false_eq_true, Bool.true_eq_false, List.toList_toArray, aeval, upd_same, upd_other, ne_eq, not_false_eq_true, frame0, ofConst, ↓reduceIte, Nat.reduceEqDiff, List.getD_cons_zero, List.getD_cons_succ, Option.map_some, Option.map_none]; rfl) ?_
    refine wpo_nil ?_
    refine wpc_block ?_
    refine wpc_for tyOk 8 (fun k fr σ' => k ≤ 8 ∧ fr 0 = a ∧ fr 3 = .int .u32 (rbits b[i] ((b.take i).foldl rbyte 4294967295#32) k).toNat ∧ fr 4 = .int .i64 i ∧ fr 5 = .int .i64 k ∧ σ' = σ) 0 ⟨by omega, by simp only [upd, ↓reduceIte, Nat.reduceEqDiff, h0], by simp only [upd, ↓reduceIte, Nat.reduceEqDiff, h3]; rfl, by simp only [upd, ↓reduceIte, Nat.reduceEqDiff, h4], rfl, rfl⟩ ?_
    rintro k fr τ ⟨hk, k0, k3, k4, k5, hτ⟩
    obtain rfl := hτ.symm
    refine wpc_seq ?_
    refine wpc_seq ?_
    refine wpc_region rfl ?_
    refine wpo_op rfl rfl rfl rfl (by simp only [aop, pairO, Bool.false_eq_true, Bool.true_eq_false, List.toList_toArray, aeval, upd_same, upd_other, ne_eq, not_false_eq_true, frame0, ofConst, ↓reduceIte, Nat.reduceEqDiff, List.getD_cons_zero, List.getD_cons_succ, Option.map_some, Option.map_none, k5]; rfl) ?_
    refine wpo_op rfl rfl rfl rfl (by simp only [aop, pairO, Bool.false_eq_true, Bool.true_eq_false, List.toList_toArray, aeval, upd_same, upd_other, ne_eq, not_false_eq_true, frame0, ofConst, ↓reduceIte, Nat.reduceEqDiff, List.getD_cons_zero, List.getD_cons_succ, Option.map_some, Option.map_none, abin', abin, aarith, beq_bv8, beq_bv32, beq_bv64, aeq, astr, isC, reduceCtorEq, cv_u8, cv_u16, cv_u32, cv_u64, cv_i64_u8, cv_i64_u16, cv_i64_u32, xor_u8, xor_u32, xor_u64, and_u8, and_u32, and_u64, or_u8, or_u64, xor_u32_lit, and_u32_lit, and_u64_lit, and_u8_lit, shr_u8, shr_u32, shr_u64, beq_bv, Int.reduceLE, Int.reduceLT, Int.reduceToNat, BitVec.reduceOfInt, td3]; rfl) ?_
    refine wpo_nil ?_
    refine wpc_cond (by simp only [aop, pairO, Bool.false_eq_true, Bool.true_eq_false, List.toList_toArray, aeval, upd_same, upd_other, ne_eq, not_false_eq_true, frame0, ofConst, ↓reduceIte, Nat.reduceEqDiff, List.getD_cons_zero, List.getD_cons_succ, Option.map_some, Option.map_none]; rfl) (fun hb1 => ?_) (fun hb1 => ?_)
    ·
      have klt : k < 8 := by have := of_decide_eq_true hb1; omega
      refine wpc_skip ?_
      refine wpc_seq ?_
      refine wpc_block ?_
      refine wpc_seq ?_
      refine wpc_region rfl ?_
      refine wpo_op rfl rfl rfl rfl (by simp only [aop, pairO, Bool.false_eq_true, Bool.true_eq_false, List.toList_toArray, aeval, upd_same, upd_other, ne_eq, not_false_eq_true, frame0, ofConst, ↓reduceIte, Nat.reduceEqDiff, List.getD_cons_zero, List.getD_cons_succ, Option.map_some, Option.map_none, k0]; rfl) ?_
      refine wpo_op rfl rfl rfl rfl (by simp only [aop, pairO, Bool.false_eq_true, Bool.true_eq_false, List.toList_toArray, aeval, upd_same, upd_other, ne_eq, not_false_eq_true, frame0, ofConst, ↓reduceIte, Nat.reduceEqDiff, List.getD_cons_zero, List.getD_cons_succ, Option.map_some, Option.map_none, k4]; rfl) ?_
      refine wpo_op rfl rfl rfl rfl (by simp only [aop, pairO, Bool.false_eq_true, Bool.true_eq_false, List.toList_toArray, aeval, upd_same, upd_other, ne_eq, not_false_eq_true, frame0, ofConst, ↓reduceIte, Nat.reduceEqDiff, List.getD_cons_zero, List.getD_cons_succ, Option.map_some, Option.map_none, ha.at8 td22 sz5 (List.getElem?_eq_getElem hlt)]; rfl) ?_
      refine wpo_op rfl rfl rfl rfl (by simp only [aop, pairO, Bool.false_eq_true, Bool.true_eq_false, List.toList_toArray, aeval, upd_same, upd_other, ne_eq, not_false_eq_true, frame0, ofConst, ↓reduceIte, Nat.reduceEqDiff, List.getD_cons_zero, List.getD_cons_succ, Option.map_some, Option.map_none, aload, acells, acut, isAggTD, AV.cells, List.getElem?_cons_zero, List.getElem?_append_right, Nat.le_refl, Nat.sub_self, ty5]; rfl) ?_
      refine wpo_op rfl rfl rfl rfl (by simp only [aop, pairO, Bool.false_eq_true, Bool.true_eq_false, List.toList_toArray, aeval, upd_same, upd_other, ne_eq, not_false_eq_true, frame0, ofConst, ↓reduceIte, Nat.reduceEqDiff, List.getD_cons_zero, List.getD_cons_succ, Option.map_some, Option.map_none, k5]; rfl) ?_
      refine wpo_op rfl rfl rfl rfl (by simp only [aop, pairO, Bool.false_eq_true, Bool.true_eq_false, List.toList_toArray, aeval, upd_same, upd_other, ne_eq, not_false_eq_true, frame0, ofConst, ↓reduceIte, Nat.reduceEqDiff, List.getD_cons_zero, List.getD_cons_succ, Option.map_some, Option.map_none, abin', abin, aarith, beq_bv8, beq_bv32, beq_bv64, aeq, astr, isC, reduceCtorEq, cv_u8, cv_u16, cv_u32, cv_u64, cv_i64_u8, cv_i64_u16, cv_i64_u32, xor_u8, xor_u32, xor_u64, and_u8, and_u32, and_u64, or_u8, or_u64, xor_u32_lit, and_u32_lit, and_u64_lit, and_u8_lit, shr_u8, shr_u32, shr_u64, beq_bv, Int.reduceLE, Int.reduceLT, Int.reduceToNat, BitVec.reduceOfInt, td5, Int.natCast_nonneg, Int.toNat_natCast]; rfl) ?_
      refine wpo_op rfl rfl rfl rfl (by simp only [aop, pairO, Bool.false_eq_true, Bool.true_eq_false, List.toList_toArray, aeval, upd_same, upd_other, ne_eq, not_false_eq_true, frame0, ofConst, ↓reduceIte, Nat.reduceEqDiff, List.getD_cons_zero, List.getD_cons_succ, Option.map_some, Option.map_none, aconv, cv_u8, cv_u16, cv_u32, cv_u64, cv_i64_u8, cv_i64_u16, cv_i64_u32, td5, td23]; rfl) ?_
      refine wpo_op rfl rfl rfl rfl (by simp only [aop, pairO, Bool.false_eq_true, Bool.true_eq_false, List.toList_toArray, aeval, upd_same, upd_other, ne_eq, not_false_eq_true, frame0, ofConst, ↓reduceIte, Nat.reduceEqDiff, List.getD_cons_zero, List.getD_cons_succ, Option.map_some, Option.map_none, abin', abin, aarith, beq_bv8, beq_bv32, beq_bv64, aeq, astr, isC, reduceCtorEq, cv_u8, cv_u16, cv_u32, cv_u64, cv_i64_u8, cv_i64_u16, cv_i64_u32, xor_u8, xor_u32, xor_u64, and_u8, and_u32, and_u64, or_u8, or_u64, xor_u32_lit, and_u32_lit, and_u64_lit, and_u8_lit, shr_u8, shr_u32, shr_u64, beq_bv, Int.reduceLE, Int.reduceLT, Int.reduceToNat, BitVec.reduceOfInt, td23, rem32, quo32, Int.reduceLT, BitVec.reduceOfInt, Int.reduceEq, if_false]; rfl) ?_
      refine wpo_op rfl rfl rfl rfl (by simp only [aop, pairO, Bool.false_eq_true, Bool.true_eq_false, List.toList_toArray, aeval, upd_same, upd_other, ne_eq, not_false_eq_true, frame0, ofConst, ↓reduceIte, Nat.reduceEqDiff, List.getD_cons_zero, List.getD_cons_succ, Option.map_some, Option.map_none]; rfl) ?_
      refine wpo_nil ?_
      refine wpc_seq ?_
      refine wpc_region rfl ?_
      refine wpo_op rfl rfl rfl rfl (by simp only [aop, pairO, Bool.false_eq_true, Bool.true_eq_false, List.toList_toArray, aeval, upd_same, upd_other, ne_eq, not_false_eq_true, frame0, ofConst, ↓reduceIte, Nat.reduceEqDiff, List.getD_cons_zero, List.getD_cons_succ, Option.map_some, Option.map_none, k3]; rfl) ?_
      refine wpo_op rfl rfl rfl rfl (by simp only [aop, pairO, Bool.false_eq_true, Bool.true_eq_false, List.toList_toArray, aeval, upd_same, upd_other, ne_eq, not_false_eq_true, frame0, ofConst, ↓reduceIte, Nat.reduceEqDiff, List.getD_cons_zero, List.getD_cons_succ, Option.map_some, Option.map_none, abin', abin, aarith, beq_bv8, beq_bv32, beq_bv64, aeq, astr, isC, reduceCtorEq, cv_u8, cv_u16, cv_u32, cv_u64, cv_i64_u8, cv_i64_u16, cv_i64_u32, xor_u8, xor_u32, xor_u64, and_u8, and_u32, and_u64, or_u8, or_u64, xor_u32_lit, and_u32_lit, and_u64_lit, and_u8_lit, shr_u8, shr_u32, shr_u64, beq_bv, Int.reduceLE, Int.reduceLT, Int.reduceToNat, BitVec.reduceOfInt, td23, rem32, quo32, Int.reduceLT, BitVec.reduceOfInt, Int.reduceEq, if_false]; rfl) ?_
      refine wpo_op rfl rfl rfl rfl (by simp only [aop, pairO, Bool.false_eq_true, Bool.true_eq_false, List.toList_toArray, aeval, upd_same, upd_other, ne_eq, not_false_eq_true, frame0, ofConst, ↓reduceIte, Nat.reduceEqDiff, List.getD_cons_zero, List.getD_cons_succ, Option.map_some, Option.map_none]; rfl) ?_
      refine wpo_nil ?_
      refine wpc_seq ?_
      refine wpc_region rfl ?_
      refine wpo_op rfl rfl rfl rfl (by simp only [aop, pairO, Bool.false_eq_true, Bool.true_eq_false, List.toList_toArray, aeval, upd_same, upd_other, ne_eq, not_false_eq_true, frame0, ofConst, ↓reduceIte, Nat.reduceEqDiff, List.getD_cons_zero, List.getD_cons_succ, Option.map_some, Option.map_none, k3]; rfl) ?_
      refine wpo_op rfl rfl rfl rfl (by simp only [aop, pairO, Bool.false_eq_true, Bool.true_eq_false, List.toList_toArray, aeval, upd_same, upd_other, ne_eq, not_false_eq_true, frame0, ofConst, ↓reduceIte, Nat.reduceEqDiff, List.getD_cons_zero, List.getD_cons_succ, Option.map_some, Option.map_none, abin', abin, aarith, beq_bv8, beq_bv32, beq_bv64, aeq, astr, isC, reduceCtorEq, cv_u8, cv_u16, cv_u32, cv_u64, cv_i64_u8, cv_i64_u16, cv_i64_u32, xor_u8, xor_u32, xor_u64, and_u8, and_u32, and_u64, or_u8, or_u64, xor_u32_lit, and_u32_lit, and_u64_lit, and_u8_lit, shr_u8, shr_u32, shr_u64, beq_bv, Int.reduceLE, Int.reduceLT, Int.reduceToNat, BitVec.reduceOfInt, td23, rem32, quo32, Int.reduceLT, BitVec.reduceOfInt, Int.reduceEq, if_false]; rfl) ?_
      refine wpo_op rfl rfl rfl rfl (by simp only [aop, pairO, Bool.false_eq_true, Bool.true_eq_false, List.toList_toArray, aeval, upd_same, upd_other, ne_eq, not_false_eq_true, frame0, ofConst, ↓reduceIte, Nat.reduceEqDiff, List.getD_cons_zero, List.getD_cons_succ, Option.map_some, Option.map_none]; rfl) ?_
      refine wpo_nil ?_
      refine wpc_seq ?_
      refine wpc_region rfl ?_
      refine wpo_op rfl rfl rfl rfl (by simp only [aop, pairO, Bool.false_eq_true, Bool.true_eq_false, List.toList_toArray, aeval, upd_same, upd_other, ne_eq, not_false_eq_true, frame0, ofConst, ↓reduceIte, Nat.reduceEqDiff, List.getD_cons_zero, List.getD_cons_succ, Option.map_some, Option.map_none]; rfl) ?_
      refine wpo_op rfl rfl rfl rfl (by simp only [aop, pairO, Bool.false_eq_true, Bool.true_eq_false, List.toList_toArray, aeval, upd_same, upd_other, ne_eq, not_false_eq_true, frame0, ofConst, ↓reduceIte, Nat.reduceEqDiff, List.getD_cons_zero, List.getD_cons_succ, Option.map_some, Option.map_none]; rfl) ?_
      refine wpo_op rfl rfl rfl rfl (by simp only [aop, pairO, Bool.false_eq_true, Bool.true_eq_false, List.toList_toArray, aeval, upd_same, upd_other, ne_eq, not_false_eq_true, frame0, ofConst, ↓reduceIte, Nat.reduceEqDiff, List.getD_cons_zero, List.getD_cons_succ, Option.map_some, Option.map_none, abin', abin, aarith, beq_bv8, beq_bv32, beq_bv64, aeq, astr, isC, reduceCtorEq, cv_u8, cv_u16, cv_u32, cv_u64, cv_i64_u8, cv_i64_u16, cv_i64_u32, xor_u8, xor_u32, xor_u64, and_u8, and_u32, and_u64, or_u8, or_u64, xor_u32_lit, and_u32_lit, and_u64_lit, and_u8_lit, shr_u8, shr_u32, shr_u64, beq_bv, Int.reduceLE, Int.reduceLT, Int.reduceToNat, BitVec.reduceOfInt, td23, bne, beq_bv]; rfl) ?_
      refine wpo_nil ?_
      refine wpc_cond (by simp only [aop, pairO, Bool.false_eq_true, Bool.true_eq_false, List.toList_toArray, aeval, upd_same, upd_other, ne_eq, not_false_eq_true, frame0, ofConst, ↓reduceIte, Nat.reduceEqDiff, List.getD_cons_zero, List.getD_cons_succ, Option.map_some, Option.map_none]; rfl) (fun hb2 => ?_) (fun hb2 => ?_)
      ·
        refine wpc_region rfl ?_
        refine wpo_op rfl rfl rfl rfl (by simp only [aop, pairO, Bool.false_eq_true, Bool.true_eq_false, List.toList_toArray, aeval, upd_same, upd_other, ne_eq, not_false_eq_true, frame0, ofConst, ↓reduceIte, Nat.reduceEqDiff, List.getD_cons_zero, List.getD_cons_succ, Option.map_some, Option.map_none]; rfl) ?_
        refine wpo_op rfl rfl rfl rfl (by simp only [aop, pairO, Bool.false_eq_true, Bool.true_eq_false, List.toList_toArray, aeval, upd_same, upd_other, ne_eq, not_false_eq_true, frame0, ofConst, ↓reduceIte, Nat.reduceEqDiff, List.getD_cons_zero, List.getD_cons_succ, Option.map_some, Option.map_none, abin', abin, aarith, beq_bv8, beq_bv32, beq_bv64, aeq, astr, isC, reduceCtorEq, cv_u8, cv_u16, cv_u32, cv_u64, cv_i64_u8, cv_i64_u16, cv_i64_u32, xor_u8, xor_u32, xor_u64, and_u8, and_u32, and_u64, or_u8, or_u64, xor_u32_lit, and_u32_lit, and_u64_lit, and_u8_lit, shr_u8, shr_u32, shr_u64, beq_bv, Int.reduceLE, Int.reduceLT, Int.reduceToNat, BitVec.reduceOfInt, td23]; rfl) ?_
        refine wpo_op rfl rfl rfl rfl (by simp only [aop, pairO, Bool.false_eq_true, Bool.true_eq_false, List.toList_toArray, aeval, upd_same, upd_other, ne_eq, not_false_eq_true, frame0, ofConst, ↓reduceIte, Nat.reduceEqDiff, List.getD_cons_zero, List.getD_cons_succ, Option.map_some, Option.map_none]; rfl) ?_
        refine wpo_nil ?_
        refine wpc_region rfl ?_
        refine wpo_op rfl rfl rfl rfl (by simp only [aop, pairO, Bool.false_eq_true, Bool.true_eq_false, List.toList_toArray, aeval, upd_same, upd_other, ne_eq, not_false_eq_true, frame0, ofConst, ↓reduceIte, Nat.reduceEqDiff, List.getD_cons_zero, List.getD_cons_succ, Option.map_some, Option.map_none, k5]; rfl) ?_
        refine wpo_op rfl rfl rfl rfl (by simp only [aop, pairO, Bool.false_eq_true, Bool.true_eq_false, List.toList_toArray, aeval, upd_same, upd_other, ne_eq, not_false_eq_true, frame0, ofConst, ↓reduceIte, Nat.reduceEqDiff, List.getD_cons_zero, List.getD_cons_succ, Option.map_some, Option.map_none, abin', abin, aarith, beq_bv8, beq_bv32, beq_bv64, aeq, astr, isC, reduceCtorEq, cv_u8, cv_u16, cv_u32, cv_u64, cv_i64_u8, cv_i64_u16, cv_i64_u32, xor_u8, xor_u32, xor_u64, and_u8, and_u32, and_u64, or_u8, or_u64, xor_u32_lit, and_u32_lit, and_u64_lit, and_u8_lit, shr_u8, shr_u32, shr_u64, beq_bv, Int.reduceLE, Int.reduceLT, Int.reduceToNat, BitVec.reduceOfInt, td3]; rfl) ?_
        refine wpo_op rfl rfl rfl rfl (by simp only [aop, pairO, Bool.false_eq_true, Bool.true_eq_false, List.toList_toArray, aeval, upd_same, upd_other, ne_eq, not_false_eq_true, frame0, ofConst, ↓reduceIte, Nat.reduceEqDiff, List.getD_cons_zero, List.getD_cons_succ, Option.map_some, Option.map_none]; rfl) ?_
        refine wpo_nil ?_
        refine ⟨klt, klt, by simp only [upd, ↓reduceIte, Nat.reduceEqDiff, k0], ?_, by simp only [upd, ↓reduceIte, Nat.reduceEqDiff, k4], by simp only [upd, ↓reduceIte, Nat.reduceEqDiff]; rw [wrap_i64_id (by omega) (by omega)]; rfl, rfl⟩
        simp only [upd, ↓reduceIte, Nat.reduceEqDiff, k3]
        simp only [Bool.not_eq_true', Bool.not_eq_false', decide_eq_true_eq, decide_eq_false_iff_not] at hb2
        simp only [rbits, rbit]
        first | rw [if_pos hb2] | rw [if_neg hb2]
      ·
        refine wpc_skip ?_
        refine wpc_region rfl ?_
        refine wpo_op rfl rfl rfl rfl (by simp only [aop, pairO, Bool.false_eq_true, Bool.true_eq_false, List.toList_toArray, aeval, upd_same, upd_other, ne_eq, not_false_eq_true, frame0, ofConst, ↓reduceIte, Nat.reduceEqDiff, List.getD_cons_zero, List.getD_cons_succ, Option.map_some, Option.map_none, k5]; rfl) ?_
        refine wpo_op rfl rfl rfl rfl (by simp only [aop, pairO, Bool.false_eq_true, Bool.true_eq_false, List.toList_toArray, aeval, upd_same, upd_other, ne_eq, not_false_eq_true, frame0, ofConst, ↓reduceIte, Nat.reduceEqDiff, List.getD_cons_zero, List.getD_cons_succ, Option.map_some, Option.map_none, abin', abin, aarith, beq_bv8, beq_bv32, beq_bv64, aeq, astr, isC, reduceCtorEq, cv_u8, cv_u16, cv_u32, cv_u64, cv_i64_u8, cv_i64_u16, cv_i64_u32, xor_u8, xor_u32, xor_u64, and_u8, and_u32, and_u64, or_u8, or_u64, xor_u32_lit, and_u32_lit, and_u64_lit, and_u8_lit, shr_u8, shr_u32, shr_u64, beq_bv, Int.reduceLE, Int.reduceLT, Int.reduceToNat, BitVec.reduceOfInt, td3]; rfl) ?_
        refine wpo_op rfl rfl rfl rfl (by simp only [aop, pairO, Bool.false_eq_true, Bool.true_eq_false, List.toList_toArray, aeval, upd_same, upd_other, ne_eq, not_false_eq_true, frame0, ofConst, ↓reduceIte, Nat.reduceEqDiff, List.getD_cons_zero, List.getD_cons_succ, Option.map_some, Option.map_none]; rfl) ?_
        refine wpo_nil ?_
        refine ⟨klt, klt, by simp only [upd, ↓reduceIte, Nat.reduceEqDiff, k0], ?_, by simp only [upd, ↓reduceIte, Nat.reduceEqDiff, k4], by simp only [upd, ↓reduceIte, Nat.reduceEqDiff]; rw [wrap_i64_id (by omega) (by omega)]; rfl, rfl⟩
        simp only [upd, ↓reduceIte, Nat.reduceEqDiff, k3]
        simp only [Bool.not_eq_true', Bool.not_eq_false', decide_eq_true_eq, decide_eq_false_iff_not] at hb2
        simp only [rbits, rbit]
        first | rw [if_pos hb2] | rw [if_neg hb2]
    ·
      have kge : ¬ (k:Int) < 8 := of_decide_eq_false hb1
      obtain rfl : k = 8 := by omega
      refine wpc_exit ?_
      refine at_ rfl ?_
      refine wpc_region rfl ?_
      refine wpo_op rfl rfl rfl rfl (by simp only [aop, pairO, Bool.false_eq_true, Bool.true_eq_false, List.toList_toArray, aeval, upd_same, upd_other, ne_eq, not_false_eq_true, frame0, ofConst, ↓reduceIte, Nat.reduceEqDiff, List.getD_cons_zero, List.getD_cons_succ, Option.map_some, Option.map_none, k4]; rfl) ?_
      refine wpo_op rfl rfl rfl rfl (by simp only [aop, pairO, Bool.false_eq_true, Bool.true_eq_false, List.toList_toArray, aeval, upd_same, upd_other, ne_eq, not_false_eq_true, frame0, ofConst, ↓reduceIte, Nat.reduceEqDiff, List.getD_cons_zero, List.getD_cons_succ, Option.map_some, Option.map_none, abin', abin, aarith, beq_bv8, beq_bv32, beq_bv64, aeq, astr, isC, reduceCtorEq, cv_u8, cv_u16, cv_u32, cv_u64, cv_i64_u8, cv_i64_u16, cv_i64_u32, xor_u8, xor_u32, xor_u64, and_u8, and_u32, and_u64, or_u8, or_u64, xor_u32_lit, and_u32_lit, and_u64_lit, and_u8_lit, shr_u8, shr_u32, shr_u64, beq_bv, Int.reduceLE, Int.reduceLT, Int.reduceToNat, BitVec.reduceOfInt, td3]; rfl) ?_
      refine wpo_op rfl rfl rfl rfl (by simp only [aop, pairO, Bool.false_eq_true, Bool.true_eq_false, List.toList_toArray, aeval, upd_same, upd_other, ne_eq, not_false_eq_true, frame0, ofConst, ↓reduceIte, Nat.reduceEqDiff, List.getD_cons_zero, List.getD_cons_succ, Option.map_some, Option.map_none]; rfl) ?_
      refine wpo_nil ?_
      refine ⟨hlt, hlt, by simp only [upd, ↓reduceIte, Nat.reduceEqDiff, k0], ?_, by simp only [upd, ↓reduceIte, Nat.reduceEqDiff, k4]; rw [wrap_i64_id (by omega) (by omega)]; rfl, rfl⟩
      simp only [upd, ↓reduceIte, Nat.reduceEqDiff, k3]
      rw [List.take_succ_eq_append_getElem hlt, List.foldl_append]
      rfl
  ·
    have hge : ¬ (i:Int) < b.length := of_decide_eq_false hb0
    obtain rfl : i = b.length := by omega
    refine wpc_exit ?_
    refine at_ rfl ?_
    refine wpc_seq ?_
    refine wpc_region rfl ?_
    refine wpo_op rfl rfl rfl rfl (by simp only [aop, pairO, Bool.false_eq_true, Bool.true_eq_false, List.toList_toArray, aeval, upd_same, upd_other, ne_eq, not_false_eq_true, frame0, ofConst, ↓reduceIte, Nat.reduceEqDiff, List.getD_cons_zero, List.getD_cons_succ, Option.map_some, Option.map_none, h3]; rfl) ?_
    refine wpo_op rfl rfl rfl rfl (by simp only [aop, pairO, Bool.false_eq_true, Bool.true_eq_false, List.toList_toArray, aeval, upd_same, upd_other, ne_eq, not_false_eq_true, frame0, ofConst, ↓reduceIte, Nat.reduceEqDiff, List.getD_cons_zero, List.getD_cons_succ, Option.map_some, Option.map_none, abin', abin, aarith, beq_bv8, beq_bv32, beq_bv64, aeq, astr, isC, reduceCtorEq, cv_u8, cv_u16, cv_u32, cv_u64, cv_i64_u8, cv_i64_u16, cv_i64_u32, xor_u8, xor_u32, xor_u64, and_u8, and_u32, and_u64, or_u8, or_u64, xor_u32_lit, and_u32_lit, and_u64_lit, and_u8_lit, shr_u8, shr_u32, shr_u64, beq_bv, Int.reduceLE, Int.reduceLT, Int.reduceToNat, BitVec.reduceOfInt, td23, sub_u32, sub_u32_r, sub_u32_l]; rfl) ?_
    refine wpo_op rfl rfl rfl rfl (by simp only [aop, pairO, Bool.false_eq_true, Bool.true_eq_false, List.toList_toArray, aeval, upd_same, upd_other, ne_eq, not_false_eq_true, frame0, ofConst, ↓reduceIte, Nat.reduceEqDiff, List.getD_cons_zero, List.getD_cons_succ, Option.map_some, Option.map_none]; rfl) ?_
    refine wpo_nil ?_
    refine wpc_ret ?_
    refine ⟨_, by rw [show Try.f15.results.toList = [.tmp 2] from rfl]; simp only [ares, aresL, aresOne, aload, acells, acut, isAggTD, List.getElem?_append_right, Nat.le_refl, Nat.sub_self, List.getElem?_cons_zero, AV.cells, List.length_cons, List.length_nil, Nat.reduceAdd, List.drop_zero, List.take_succ_cons, List.take_zero, aop, pairO, Bool.false_eq_true, Bool.true_eq_false, List.toList_toArray, aeval, upd_same, upd_other, ne_eq, not_false_eq_true, frame0, ofConst, ↓reduceIte, Nat.reduceEqDiff, List.getD_cons_zero, List.getD_cons_succ, Option.map_some, Option.map_none]; rfl, ?_⟩
    refine ⟨?_, rfl⟩
    rw [List.take_length]
    rfl
end Go.Proofs.Ytnjijefhnmnjgaa.Ck
